/-
  The abstract machine: a slice that the function built itself, in a box, is sorted in place, cut to its different elements in place, and returned.
  Conditions: none; it speaks of any program.
-/
import Derived.Test.YtapcibbbmeomkaaAmRr
import Derived.Test.YtapcibbbmeomkaaAmSd
set_option linter.all false
namespace Go.AM
open Go Go.RowKit
theorem loadVar_scalar {P : Program} {t : TypeId} {w : World} {b : Nat} {u : Value} (hs : scalar P t = true) (h : w.cell? ⟨b, 0, none⟩ = some u) : (loadVar t ⟨b, 0, none⟩).run P w = .ok u w := by
  obtain ⟨d, hd, hrow⟩ := run_scalar hs
  have hagg : (isAgg t).run P w = .ok false w := by rw [run_isAgg hd, hrow]
  simp [loadVar, hagg, h]
theorem cell_same {w w' : World} {b : Nat} {u : Value} (h : w'.heap[b]? = w.heap[b]?) (hc : w.cell? ⟨b, 0, none⟩ = some u) : w'.cell? ⟨b, 0, none⟩ = some u := by
  unfold World.cell? at hc ⊢
  simp only [h]
  exact hc
def InPlaceR (P : Program) (f : FuncId) (e : TypeId) (zs ts : List Int) : Prop :=
  Goes P f ∧ ∀ (u : Value) (w : World), w.ownsRow 0 e 1 u zs.length (zs.map (Value.int .i64)) →
    Calls P f #[u] w fun en w' => ∃ u', en = .returned u' ∧ u'.ownBlock = u.ownBlock ∧ w'.ownsRow 0 e 1 u' ts.length (ts.map (Value.int .i64)) ∧ w'.os = w.os ∧ w'.tape = w.tape ∧ w'.output = w.output ∧ w.heap.size ≤ w'.heap.size ∧ ∀ k, k < w.heap.size → u.ownBlock ≠ some k → w'.heap[k]? = w.heap[k]?
theorem Built.nextR {G0 : Gh} {w0 w w' : World} {e : TypeId} {zs ts : List Int} {u u' : Value} {ds : List Deferred} (h : Built G0 w0 e zs u ds w) (h0 : u'.ownBlock = u.ownBlock) (h1 : w'.ownsRow 0 e 1 u' ts.length (ts.map (Value.int .i64))) (h2 : w'.os = w.os) (h3 : w'.tape = w.tape) (h4 : w'.output = w.output) (h5 : w.heap.size ≤ w'.heap.size)
    (h6 : ∀ k, k < w.heap.size → u.ownBlock ≠ some k → w'.heap[k]? = w.heap[k]?) : Built G0 w0 e ts u' ds w' := by
  refine ⟨h1, fun b hb => h.new b (h0 ▸ hb), fun b hb => ?_, Nat.le_trans h.size h5, h2.trans h.os, h3.trans h.tape, h4.trans h.output, ?_⟩
  · rw [h6 b (Nat.lt_of_lt_of_le hb h.size) (fun hu => by have := h.new b hu; omega)]
    exact h.old b hb
  · obtain ⟨Ds, d1, d2, d3⟩ := h.marks
    refine ⟨Ds, d1, d2, fun D hD => ⟨(d3 D hD).1, ?_⟩⟩
    have hd := (d3 D hD).2
    rw [h6 D (Array.getElem?_eq_some_iff.1 hd).1 (fun hu => ?_)]
    · exact hd
    · rcases h.own.2 with ⟨q1, _⟩ | ⟨g, cap, cur, q1, _, q3, _⟩
      · rw [q1] at hu; cases hu
      · rw [q1] at hu
        injection hu with hu
        have hu : g = D := hu
        subst hu
        rw [hd] at q3
        cases q3
theorem put_get {a : Act} {N d : Nat} (hs : a.tmps.size = N) (hd : d < N) (v : Value) : (a.put (some d) v).tmps.getD d undef = v := by
  simp only [Act.put, Array.getD_eq_getD_getElem?]
  rw [Array.getElem?_setIfInBounds_self_of_lt (by omega)]
  rfl
theorem put_ne {a : Act} {d t : Nat} (h : d ≠ t) (v : Value) : (a.put (some d) v).tmps.getD t undef = a.tmps.getD t undef := by
  simp only [Act.put, Array.getD_eq_getD_getElem?]
  rw [Array.getElem?_setIfInBounds_ne h]
theorem put_size {a : Act} {d : Nat} {v : Value} : (a.put (some d) v).tmps.size = a.tmps.size := by simp [Act.put]
theorem sim_of_built2 {N : Nat} {G0 : Gh} {w0 : World} {a : Act} {w : World} {e : TypeId} {zs : List Int} {t j t2 : Nat} {y : Value} (hB : Built G0 w0 e zs (a.tmps.getD t undef) a.defers w) (hs : a.tmps.size = N) (hy : a.tmps.getD t2 undef = y) :
    Sim G0 E0 w0 N (Fr.of [(t, .sl (.id j) 1 (intRow zs)), (t2, .v y)]) (E0.set j (.row e zs.length)) a w := by
  obtain ⟨G, h1, h2, h3, h4, h5⟩ := sim_of_built (j := j) hB hs
  refine ⟨G, h1, h2, h3, h4, fun t' ht' => ?_⟩
  have h := h5 t' ht'
  show VR _ _ _ (lk _ t') _
  have h : VR _ _ _ (lk [(t, .sl (.id j) 1 (intRow zs))] t') _ := h
  by_cases q : t' = t
  · subst q
    rw [lk_same] at h ⊢
    exact h
  · rw [lk_ne q]
    by_cases q2 : t' = t2
    · subst q2
      rw [lk_same, hy]
      exact .v y
    · rw [lk_ne q2]
      exact .any _
section
variable {P : Program} {N : Nat} {G0 : Gh} {w0 : World} {C : Exit → Act → World → Prop}
theorem op_load {o : Oper} {a : Act} {w : World} {K : Act → World → Prop} {Q : Exit → Act → World → Prop} {t : TypeId} {c b : Nat} {u : Value} (hop : o.op = .load t (.tmp c)) (hs : scalar P t = true) (hc : a.tmps.getD c undef = .pointer (some ⟨b, 0, none⟩)) (hu : w.cell? ⟨b, 0, none⟩ = some u)
    (h : K (a.put o.dst u) w) : o.wpIn (FR none) 0 P a w K Q := by
  refine op_val (v := u) (fun c hc => by rw [hop] at hc; cases hc) ?_ h
  have hv : a.eval (.tmp c) = .pointer (some ⟨b, 0, none⟩) := hc
  simp only [execOp, hop, Instr.loadAt, hv, Instr.sureAddr, Sem.run_bind, Sem.run_pure, Result.andThen_ok, loadVar_scalar hs hu]
theorem snd_uniq {id id' d d2 d' d3 r1 r2 c i j f f2 : Nat} {e t ty1 ty2 ty3 ty4 ty5 ty6 : TypeId} {p1 p2 p3 p4 p5 p6 : String} {a1 a2 a3 a4 a5 a6 : Array Edge} {args args' : Array TypeId} {y : Operand} {l : List (Nat × AV)} {H : Heap} {g : Nat} {zs ts us : List Int} {rs : List ResultVar}
    (hd : d < N) (hd' : d' < N) (hd3 : d3 < N) (hr1 : r1 < N) (hr2 : r2 < N) (hcN : c < N) (hdc : d ≠ c) (hd2c : d2 ≠ c) (hr12 : r2 ≠ r1)
    (hv : lk l c = .ptr i 0) (hi : H i = some (.cells [.sl (.id j) 1 (intRow zs)])) (hj : H j = some (.row e zs.length)) (hs : scalar P t = true) (hf : InPlace P f e zs ts) (hf2 : InPlaceR P f2 e ts us) (hy : ∀ a : Act, a.eval y = .int .i64 0)
    (hrs : rs = [.tmp r1, .tmp r2]) (hC : EndS N G0 w0 (SndEnd P N rs e us (.int .i64 0)) C) :
    Snd P N G0 w0 C (.seq (.region id #[⟨some d, .load t (.tmp c), ty1, p1, a1, none⟩, ⟨some d2, .call { callee := .value (.func f), args := #[.tmp d], argTypes := args }, ty2, p2, a2, none⟩] false)
      (.seq (.region id' #[⟨some d', .load t (.tmp c), ty3, p3, a3, none⟩, ⟨some d3, .call { callee := .value (.func f2), args := #[.tmp d'], argTypes := args' }, ty4, p4, a4, none⟩, ⟨some r1, .assign (.tmp d3), ty5, p5, a5, none⟩, ⟨some r2, .assign y, ty6, p6, a6, none⟩] false) .ret)) (Fr.of l) H g := by
  intro a w S hfr
  obtain ⟨G1, hp1, hE, hM, hsz, hvs⟩ := S
  have hc0 := hvs c hcN
  have hc0 : VR G1 H w (lk l c) _ := hc0
  rw [hv] at hc0
  generalize hpv : a.tmps.getD c undef = pv at hc0
  obtain ⟨b, rfl⟩ : ∃ b, pv = .pointer (some ⟨b, 0, none⟩) := by cases hc0; exact ⟨_, rfl⟩
  have hb : b = G1.φ i := by cases hc0; rfl
  obtain ⟨fv, hfv⟩ := hp1.range hi
  obtain ⟨hcell, _, hvr⟩ := hfv 0 _ rfl
  generalize fv 0 = u at hcell hvr
  rw [Nat.zero_add, ← hb] at hcell
  have hlr : (intRow zs).length = zs.length := by simp [intRow]
  have hσ : u = G1.σ j := by
    generalize hrow : intRow zs = es at hvr hlr
    cases hvr with
    | sl _ _ _ a' cap b' o' f' _ _ _ _ _ ht =>
      obtain ⟨el, n, hn, _, _, he⟩ := ht
      rw [hj] at hn
      injection hn with hn
      injection hn with hn1 hn2
      exact he (by omega)
  have hown : u.ownBlock ≠ some b := by
    rw [hσ, hb]
    exact hp1.sep i j _ e _ hi hj
  obtain ⟨_, k2, k3⟩ := put_vr (fr := Fr.of l) hsz hvs hvr (some d)
  have S1 : Sim G0 E0 w0 N (Fr.of ((d, .sl (.id j) 1 (intRow zs)) :: l)) H (a.put (some d) u) w := by
    refine ⟨G1, hp1, hE, hM, k2, ?_⟩
    rw [← put_of hd]
    exact k3
  have hB := built_of_sim (t := d) S1 hd (by show lk _ _ = _; rw [lk_same]) hj
  rw [put_get hsz hd] at hB
  refine wpIn_seq (wpIn_region ?_)
  show wpOpsIn (FR none) 0 P _ _ [0, 1] a w
  rw [wpOpsIn_cons]
  unfold wpOpIn
  rw [show ∀ (x y : Oper), (#[x, y] : Array Oper)[0]? = some x from fun _ _ => rfl]
  simp only [Region.wanted, if_true]
  refine op_load rfl hs hpv hcell ?_
  rw [wpOpsIn_cons]
  unfold wpOpIn
  rw [show ∀ (x y : Oper), (#[x, y] : Array Oper)[1]? = some y from fun _ _ => rfl]
  simp only [Region.wanted, if_true]
  refine op_call rfl hf.1 ?_
  have e3 : (#[Operand.tmp d]).map (a.put (some d) u).eval = #[u] := by
    simp only [List.map_toArray, List.map_cons, List.map_nil]
    exact congrArg (fun x => #[x]) (put_get hsz hd u)
  rw [e3]
  refine (hf.2 _ w hB.own).mono fun en w1 ⟨he, q1, q2, q3, q4, q5, q6⟩ => ⟨_, he, ?_⟩
  have hB1 := hB.next q1 q2 q3 q4 q5 q6
  have hblt : b < w.heap.size := lt_of_cell hcell
  have hcell1 := cell_same (q6 b hblt hown) hcell
  generalize ha1 : (a.put (some d) u).put (some d2) (.tuple #[]) = ac
  have hsz1 : ac.tmps.size = N := by rw [← ha1, put_size, put_size]; exact hsz
  have hpc : ac.tmps.getD c undef = .pointer (some ⟨b, 0, none⟩) := by rw [← ha1, put_ne hd2c, put_ne hdc]; exact hpv
  have hdf : ac.defers = a.defers := by rw [← ha1]; rfl
  have hB1 : Built G0 w0 e ts u ac.defers w1 := by rw [hdf]; exact hB1
  show Code.wpIn (FR none) 0 P _ _ ac w1
  refine wpIn_seq (wpIn_region ?_)
  show wpOpsIn (FR none) 0 P _ _ [0, 1, 2, 3] ac w1
  rw [wpOpsIn_cons]
  unfold wpOpIn
  rw [show ∀ (x y z t : Oper), (#[x, y, z, t] : Array Oper)[0]? = some x from fun _ _ _ _ => rfl]
  simp only [Region.wanted, if_true]
  refine op_load rfl hs hpc hcell1 ?_
  rw [wpOpsIn_cons]
  unfold wpOpIn
  rw [show ∀ (x y z t : Oper), (#[x, y, z, t] : Array Oper)[1]? = some y from fun _ _ _ _ => rfl]
  simp only [Region.wanted, if_true]
  refine op_call rfl hf2.1 ?_
  have e4 : (#[Operand.tmp d']).map (ac.put (some d') u).eval = #[u] := by
    simp only [List.map_toArray, List.map_cons, List.map_nil]
    exact congrArg (fun x => #[x]) (put_get hsz1 hd' u)
  rw [e4]
  refine (hf2.2 _ w1 hB1.own).mono fun en w2 ⟨u', he, v0, v1, v2, v3, v4, v5, v6⟩ => ⟨_, he, ?_⟩
  have hB2 := hB1.nextR v0 v1 v2 v3 v4 v5 v6
  rw [wpOpsIn_cons]
  unfold wpOpIn
  rw [show ∀ (x y z t : Oper), (#[x, y, z, t] : Array Oper)[2]? = some z from fun _ _ _ _ => rfl]
  simp only [Region.wanted, if_true]
  have hz1 : ((ac.put (some d') u).put (some d3) u').tmps.size = N := by rw [put_size, put_size]; exact hsz1
  refine op_val (v := u') (fun c hc => by cases hc) ?_ ?_
  · have : ((ac.put (some d') u).put (some d3) u').eval (.tmp d3) = u' := put_get (by rw [put_size]; exact hsz1) hd3 u'
    simp [execOp, this]
  rw [wpOpsIn_cons]
  unfold wpOpIn
  rw [show ∀ (x y z t : Oper), (#[x, y, z, t] : Array Oper)[3]? = some t from fun _ _ _ _ => rfl]
  simp only [Region.wanted, if_true]
  refine op_val (v := .int .i64 0) (fun c hc => by cases hc) ?_ ?_
  · simp [execOp, hy]
  show Code.wpIn (FR none) 0 P _ _ _ w2
  generalize ha2 : ((((ac.put (some d') u).put (some d3) u').put (some r1) u').put (some r2) (.int .i64 0)) = ae
  have hsz2 : ae.tmps.size = N := by rw [← ha2, put_size, put_size]; exact hz1
  have g1 : ae.tmps.getD r1 undef = u' := by rw [← ha2, put_ne hr12, put_get hz1 hr1]
  have g2 : ae.tmps.getD r2 undef = .int .i64 0 := by rw [← ha2, put_get (by rw [put_size]; exact hz1) hr2]
  have hdf2 : ae.defers = ac.defers := by rw [← ha2]; rfl
  refine wpIn_ret (hC .ret _ _ 1 ae w2 ?_ (sim_of_built2 (t := r1) (j := 0) (by rw [g1, hdf2]; exact hB2) hsz2 g2) (fun k hk => ?_))
  · refine ⟨.inr rfl, .inl ⟨0, ?_, Heap.set_same _ _ _⟩⟩
    rw [hrs]
    refine res_two (res_tmp (t := r1) (x := .sl (.id 0) 1 (intRow us)) ?_) (res_tmp (t := r2) (x := .v (.int .i64 0)) ?_)
    · show (if r1 < N then lk _ r1 else _) = _
      rw [if_pos hr1, lk_same]
    · show (if r2 < N then lk _ r2 else _) = _
      rw [if_pos hr2, lk_ne hr12, lk_same]
  · rw [Heap.set_ne _ _ (by omega)]
    rfl
end
end Go.AM
