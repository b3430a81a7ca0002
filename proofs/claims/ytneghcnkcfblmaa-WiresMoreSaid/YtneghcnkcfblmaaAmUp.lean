/-
  The rows: one argument, where what is read is small.
  Conditions: none; it speaks of any program.
-/
import Derived.Test.YtneghcnkcfblmaaAmU
import Derived.Test.YtneghcnkcfblmaaAmV
set_option linter.all false
namespace Go.AM
open Go Go.RowKit Go.WideShapes Go.ChangeShapes
section
variable {T : Type} {enc : TypeId × Value → T} {P : Program}
/-- A struct, one of whose fields is a slice: what is read takes no more room than there is. -/
theorem readsZ_aggS {t : TypeId} {fl : List (Nat × TypeId)} {α β : Type} {f : α → List AV} {wf : α → Prop}
    (ht : structOf P t = some fl) (hR : Reads enc P t f wf) {j o ts e k bytes : Nat} {sl : α → List β} {fb : β → List AV} (hj : fl[j]? = some (o, ts)) (hts : P.underlying ts = some (.slice e)) (hc1 : P.cellsOf ts = 1) (hcell : ∀ a, (f a)[o]? = some (.sl .no k ((sl a).map fb))) (hbb : P.bytesOf e = bytes) :
    ReadsZ enc P t (fun a => .agg (f a)) (fun a => (sl a).length * bytes ≤ 140737488355328) := by
  intro G w base sp held b0 v d p hv hd hz
  obtain ⟨fs, hfs⟩ := struct_of ht
  obtain ⟨cs, rfl, _⟩ := okWide_struct hfs hv
  obtain ⟨a, _, hvr⟩ := arg_agg hR G hd
  refine ⟨a, ?_, hvr⟩
  obtain ⟨fuel, hf⟩ := hd
  obtain ⟨xs, n, _, hx, hcl, hxl, hfld⟩ := DataW.trod_struct hfs hf
  have hd' : d = .agg (xs.map (·.1)) := (Prod.mk.inj hx).1
  have hs := ht
  unfold structOf at hs
  rw [hfs] at hs
  have hs2 : fs.toList.map (fun f => (f.offset, f.type)) = fl := Option.some.inj hs
  have h3 : (fs.toList.map (fun f => (f.offset, f.type)))[j]? = some (o, ts) := by rw [hs2]; exact hj
  rw [List.getElem?_map] at h3
  obtain ⟨fd, hf2, hfe⟩ := Option.map_eq_some_iff.1 h3
  have ho : fd.offset = o := (Prod.mk.inj hfe).1
  have hty : fd.type = ts := (Prod.mk.inj hfe).2
  have hf2' : fs[j]? = some fd := by simpa using hf2
  have h4 := hfld j fd hf2'
  rw [ho, hty, hc1] at h4
  have hlt : j < xs.length := by rw [hxl]; exact (Array.getElem?_eq_some_iff.1 hf2').1
  rw [List.getElem?_eq_getElem hlt] at h4
  cases hvr with
  | agg _ _ hl h1' hc =>
    have holt : o < (f a).length := (List.getElem?_eq_some_iff.1 (hcell a)).1
    have hocs : o < cs.size := by omega
    have hcell2 : ((Value.agg cs).cells.toList.drop o).take 1 = [cs[o]] := by
      show (cs.toList.drop o).take 1 = [cs[o]]
      rw [List.drop_eq_getElem_cons (by simpa using hocs)]
      simp
    rw [hcell2] at h4
    have h5 := hc o _ cs[o] (hcell a) (Array.getElem?_eq_getElem hocs)
    generalize cs[o] = u at h4 h5
    cases h5 with
    | sl _ _ _ ad cap _ _ _ _ _ _ _ _ _ =>
      rcases DataW.trod_slice hts h4 with ⟨h6, _⟩ | ⟨a', len', cap', elems, rest, m, _, h6, h7, _, _, _, h8, _, _, _⟩
      · have h9 := (List.cons.inj h6).1
        injection h9 with _ h10
        simp only [List.length_map] at h10
        rw [h10]
        omega
      · have h9 := (List.cons.inj h6).1
        injection h9 with _ h10
        simp only [List.length_map] at h10
        have h11 : (xs[j]).1 = .slice (elems.map (·.1)) (rest.map (·.1)) := by rw [h7]
        have h12 := hz ((elems.length + rest.length) * P.bytesOf e) (by
          rw [hd']
          simp only [DataW.weights, hfs]
          refine DataW.weights_mem_each (j := j) (t := ts) (d := (xs[j]).1) ?_ ?_ _ ?_
          · rw [List.getElem?_map, hf2]
            exact congrArg some hty
          · rw [List.getElem?_map, List.getElem?_eq_getElem hlt]
            rfl
          · rw [h11]
            simp [DataW.weights, hts])
        have h13 := reachBytes_lt
        rw [hbb] at h12
        rw [h10, ← h8]
        have h14 : elems.length * bytes ≤ (elems.length + rest.length) * bytes := Nat.mul_le_mul_right _ (Nat.le_add_right _ _)
        omega
end
end Go.AM
