/-
  The rows: one argument, where what is read is small.
  Conditions: none; it speaks of any program.
-/
import Derived.Test.YtneghcnkcfblmaaAmU
set_option linter.all false
namespace Go.AM
open Go Go.RowKit Go.WideShapes Go.ChangeShapes
section
variable {T : Type} {enc : TypeId × Value → T} {P : Program}
/-- A struct, one of whose fields is a slice: how long that is. -/
theorem agg_small {t : TypeId} {fl : List (Nat × TypeId)} {α β : Type} {f : α → List AV} {wf : α → Prop} (bulk : DataW T → Nat) (h1 : ∀ (parts : List (DataW T)) x, x ∈ parts → bulk x ≤ bulk (.agg parts)) (h2 : ∀ elems rest : List (DataW T), elems.length ≤ bulk (.slice elems rest))
    (ht : structOf P t = some fl) (hR : Reads enc P t f wf) {j o ts e k : Nat} {sl : α → List β} {fb : β → List AV} (hj : fl[j]? = some (o, ts)) (hts : P.underlying ts = some (.slice e)) (hc1 : P.cellsOf ts = 1) (hcell : ∀ a, (f a)[o]? = some (.sl .no k ((sl a).map fb)))
    {G : Gh} {w : World} {base b0 : Nat} {sp : Nat → Bool} {held : Bool} {v : Value} {d : DataW T} {p : List MemPlace} (hv : Value.okWide P w .any b0 t v) (hd : DataW.Trod enc P w base sp held t v d p) :
    ∃ a : α, (sl a).length ≤ bulk d ∧ VR G HE w (.agg (f a)) v := by
  obtain ⟨fs, hfs⟩ := struct_of ht
  obtain ⟨cs, rfl, _⟩ := okWide_struct hfs hv
  obtain ⟨a, _, hvr⟩ := arg_agg hR G hd
  refine ⟨a, ?_, hvr⟩
  obtain ⟨fuel, hf⟩ := hd
  obtain ⟨xs, n, _, hx, hcl, hxl, hfld⟩ := DataW.trod_struct hfs hf
  have hd' : d = .agg (xs.map (·.1)) := (Prod.mk.inj hx).1
  have hs := ht
  unfold structOf at hs
  rw [hfs] at hs
  have hs2 : fs.toList.map (fun f => (f.offset, f.type)) = fl := Option.some.inj hs
  have h3 : (fs.toList.map (fun f => (f.offset, f.type)))[j]? = some (o, ts) := by rw [hs2]; exact hj
  rw [List.getElem?_map] at h3
  obtain ⟨fd, hf2, hfe⟩ := Option.map_eq_some_iff.1 h3
  have ho : fd.offset = o := (Prod.mk.inj hfe).1
  have hty : fd.type = ts := (Prod.mk.inj hfe).2
  have hf2' : fs[j]? = some fd := by simpa using hf2
  have h4 := hfld j fd hf2'
  rw [ho, hty, hc1] at h4
  have hlt : j < xs.length := by rw [hxl]; exact (Array.getElem?_eq_some_iff.1 hf2').1
  rw [List.getElem?_eq_getElem hlt] at h4
  cases hvr with
  | agg _ _ hl h1' hc =>
    have holt : o < (f a).length := (List.getElem?_eq_some_iff.1 (hcell a)).1
    have hocs : o < cs.size := by omega
    have hcell2 : ((Value.agg cs).cells.toList.drop o).take 1 = [cs[o]] := by
      show (cs.toList.drop o).take 1 = [cs[o]]
      rw [List.drop_eq_getElem_cons (by simpa using hocs)]
      simp
    rw [hcell2] at h4
    have h5 := hc o _ cs[o] (hcell a) (Array.getElem?_eq_getElem hocs)
    generalize cs[o] = u at h4 h5
    cases h5 with
    | sl _ _ _ ad cap _ _ _ _ _ _ _ _ _ =>
      rcases DataW.trod_slice hts h4 with ⟨h6, _⟩ | ⟨a', len', cap', elems, rest, m, _, h6, h7, _, _, _, h8, _, _, _⟩
      · have h9 := (List.cons.inj h6).1
        injection h9 with _ h10
        simp only [List.length_map] at h10
        omega
      · have h9 := (List.cons.inj h6).1
        injection h9 with _ h10
        simp only [List.length_map] at h10
        have h11 : (xs[j]).1 = .slice (elems.map (·.1)) (rest.map (·.1)) := by rw [h7]
        have h12 : bulk (xs[j]).1 ≤ bulk (.agg (xs.map (·.1))) := h1 _ _ (List.mem_map_of_mem (List.getElem_mem hlt))
        have h13 := h2 (elems.map (·.1)) (rest.map (·.1))
        rw [h11] at h12
        rw [List.length_map] at h13
        rw [hd']
        omega
/-- What a law's row asks of each call, where there is one argument. -/
theorem lawU_calls {k : FuncId} {f : Func} {s : ChangeSpec} {t : TypeId} {α : Type} {g : α → AV} {ok : α → Prop} {W : World} {base : Nat} {args : Array Value} {ds gs : List (DataW T)} {before : List MemPlace} {tb : TypeId} {apart fresh handsOn again : Bool}
    (hK : Kids P (· < P.types.size)) (hF : ∀ t e, t < P.types.size → P.underlying t = some (.slice e) → 0 < P.cellsOf e) (hts : ∀ t ∈ f.params.toList, t < P.types.size) (hp : f.params.toList = [t])
    (hr : f.resultTypes.toList = [tb]) (htb : P.underlying tb = some .bool) (hvars : s.vars = [])
    (hs : ∀ d : DataW T, (s.fn T [d]).results = [.lit (.bool true)] ∧ (s.fn T [d]).args = [d] ∧ (s.fn T [d]).vars = [])
    (hA : ∀ (v : Value) (d : DataW T) (p : List MemPlace), Value.okWide P W .any base t v → DataW.Trod enc P W 0 (fun _ => true) true t v d p → ds = [d] → ∃ a, ok a ∧ VR ⟨fun _ => 0, fun _ => undef, fun _ => 0⟩ HE W (g a) v)
    (law : ∀ a, ok a → PureSat P k [g a] (.v (.bool true)))
    (hval : ∀ (j : Nat) t v, f.params[j]? = some t → args[j]? = some v → Value.okWide P W .any base t v)
    (hW : DataW.Whole enc P f.params.toList s.vars apart W args.toList ds gs before) :
    Calls P k args W fun e W' => ∃ v, e = .returned v ∧ s.post enc P f apart fresh handsOn again W args v W' := by
  have hW' := hW
  obtain ⟨p, q, hA0, hV, rfl, _, _⟩ := hW
  rw [hvars] at hV
  obtain ⟨rfl, rfl⟩ := trodVars_none hV
  have hA1 := hA0
  rw [hp] at hA1
  obtain ⟨v, vs', d, ds', p', q', hargs, rfl, _, hd, hrest⟩ := trodAll_cons hA1
  obtain ⟨rfl, rfl, _⟩ := trodAll_nil hrest
  have hargs' : args = #[v] := Array.ext' hargs
  have hp0 : f.params[0]? = some t := by rw [← Array.getElem?_toList, hp]; rfl
  obtain ⟨a, a1, a2⟩ := hA v d p' (hval 0 t v hp0 (by rw [hargs']; rfl)) hd rfl
  have hcall := calls_of_pure (law a a1) (w := W) (vs := args) ⟨by rw [hargs']; rfl, fun i c x hc hx => by
    rw [hargs'] at hx
    cases i with
    | zero => simp at hc hx; subst hc hx; exact a2
    | succ i => simp at hc⟩
  refine hcall.mono fun e W' ⟨he, hb⟩ => ?_
  refine ⟨_, he, ?_⟩
  obtain ⟨s1, s2, s3⟩ := hs d
  have hlt : ∀ x ∈ p ++ [], x.block < W.heap.size := fun x hx => hW'.lt x hx
  have hsz : f.resultTypes.size = 1 := by rw [← Array.length_toList, hr]; rfl
  refine post_of_below (pa := p) (pv := []) hW' (fun _ _ _ => ?_) (fun sp hsp => ?_) (fun sp _ => ?_) rfl hb ?_
  · rw [List.append_nil, s1, hr, hsz]
    exact trodAll_mk1 (shut_bool htb true)
  · rw [List.append_nil, s2]
    exact DataW.TrodAll.respare hK hF hts (trodAll_later hb hA0 fun x hx => hlt x (by simpa using hx)) (fun x hx => hsp x (by simpa using hx))
  · rw [List.append_nil, s3, hvars]
    rfl
  · intro j t r hj hv
    have hr' : f.resultTypes = #[tb] := by rw [← Array.toArray_toList (xs := f.resultTypes), hr]
    rw [hr'] at hj hv
    match j with
    | 0 =>
      simp at hj
      subst hj
      have : r = .bool true := by simpa [Value.resultList] using hv.symm
      subst this
      exact okWide_bool_mk htb true
    | j + 1 => simp at hj
end
end Go.AM
