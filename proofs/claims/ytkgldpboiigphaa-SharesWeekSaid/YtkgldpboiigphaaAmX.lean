/-
  The abstract machine: the rules for slices whose cells may be written to.
  Conditions: none; it speaks of any program.
-/
import Derived.Test.YtkgldpboiigphaaAmW
set_option linter.all false
namespace Go.AM
open Go Go.RowKit

section
variable {P : Program} {N : Nat} {l : List (Nat × AV)} {H : Heap} {g : Nat} {lim : Option Nat} {g0 i : Nat} {ops : Array Oper} {K : Fr → Heap → Nat → Prop} {r : List Oper} {d : Nat} {ty : TypeId} {pos : String} {after : Array Edge}
  {O : Nat → Prop} {H0 : Heap} {L Lp : List (Nat × Blk)} {b : Nat}
theorem St.perm {L' : BL} (hS : St O H0 L H b) (h : L'.Perm L) : St O H0 L' H b := ⟨hS.old, fun p hp => hS.has p (h.mem_iff.1 hp), (h.map (·.1)).nodup_iff.2 hS.nd, hS.fr⟩
/-- A slice of so many elements whose cells may be written to. -/
def msn (new k n : Nat) : AV := if n = 0 then .sl .no k [] else .ms new 0 k n n
theorem msl_msn {new k n : Nat} {es : List (List AV)} (h : es.length = n) : msl new k es = msn new k n := by
  subst h
  unfold msl msn
  by_cases e : es = []
  · rw [if_pos e, if_pos (by simp [e])]
  · rw [if_neg e, if_neg (by simpa using e)]
/-- Its block; there are as many elements as that. -/
def thawN (new n : Nat) (es : List (List AV)) : BL := if es.length = n then thawL new es else [(new, .ice), (new, .ice)]
theorem St.len {j n : Nat} {es : List (List AV)} (hS : St O H0 (Lp ++ thawN j n es) H b) : es.length = n := by
  by_cases h : es.length = n
  · exact h
  · have := hS.nd
    rw [List.map_append, List.nodup_append] at this
    have h2 := this.2.1
    unfold thawN at h2
    rw [if_neg h] at h2
    simp at h2
theorem St.thaw {j n : Nat} {es : List (List AV)} (hS : St O H0 (Lp ++ thawN j n es) H b) : St O H0 (Lp ++ thawL j es) H b := by
  have h := hS.len
  unfold thawN at hS
  rwa [if_pos h] at hS
theorem St.unthaw {j n : Nat} {es : List (List AV)} (h : es.length = n) (hS : St O H0 (Lp ++ thawL j es) H b) : St O H0 (Lp ++ thawN j n es) H b := by
  unfold thawN
  rwa [if_pos h]
/-- A call that returns what holds a new slice: its cells may be written to. -/
theorem o_thaw {F : Operand} {args : Array Operand} {ts : Array TypeId} {kf : FuncId} {first cap bs : List AV} {mk : AV → AV} {e k : Nat} {es : List (List AV)} (hS : St O H0 Lp H b) (hd : d < N) (ht : tgt (evL N l F) = some (kf, first, cap)) (ha : first ++ args.toList.map (evL N l) ++ cap = bs)
    (hs : Own0 P kf bs mk e k es) (hm : MkOk mk) (hp : ∀ a, a ∈ bs → Pure a) (hfl : ∀ e, e ∈ es → ∀ c, c ∈ e → Flat c) {n : Nat} (hn : es.length = n) (hb : b ≤ g0 + i)
    (h : ∀ H', St O H0 (Lp ++ thawN (g0 + i) n es) H' (g0 + i + 1) → runQ P N lim g0 ops K (i + 1) r (Fr.of ((d, mk (msn (g0 + i) k n)) :: l)) H' g) :
    runQ P N lim g0 ops K i (⟨some d, .call { callee := .value F, args := args, argTypes := ts }, ty, pos, after, none⟩ :: r) (Fr.of l) H g := by
  simp only [runQ, stepQ, opQ, callOf, ev_of, ht, ha]
  refine CallQ.new1 (hs.ms hm hp hfl) ?_
  rw [put_of hd]
  replace h := fun H' h' => h H' (St.unthaw hn h')
  rw [← msl_msn hn] at h
  by_cases hne : es = []
  · subst hne
    exact h _ (by rw [show thawL (g0 + i) [] = [] from rfl, List.append_nil]; exact hS.up (by omega))
  · have e1 : (mbl 0 es).map (fun x => (g0 + i, x)) = some (g0 + i, .cells es.flatten) := by unfold mbl; rw [if_neg hne]; rfl
    rw [e1]
    refine h _ ?_
    have e2 : thawL (g0 + i) es = [(g0 + i, .cells es.flatten)] := by unfold thawL; rw [if_neg hne]
    rw [e2]
    exact (hS.add (.cells es.flatten) hb).perm (List.perm_append_comm)
theorem putAt_last (p : BL) (x : Nat × Blk) (y : Blk) : putAt (p ++ [x]) p.length y = p ++ [(x.1, y)] := by
  induction p with
  | nil => rfl
  | cons q p ih => simp only [List.cons_append, List.length_cons, putAt, ih]
end

section
variable {P : Program} {N : Nat} {Q : Exit → Fr → Heap → Nat → Prop} {l : List (Nat × AV)} {H : Heap} {g : Nat} {b : Code} {O : Nat → Prop} {H0 : Heap} {bd : Nat}
/-- In a slot: from now on the first cells are read only. -/
theorem w_iceG {Lp : BL} {i t k n c : Nat} {cs : List AV} {es : List (List AV)} (hS : St O H0 (Lp ++ [(i, .cells cs)]) H bd) (ht : lk l t = .ms i 0 k n c) (hk : 0 < k) (hes : ∀ e, e ∈ es → e.length = k) (hfl : ∀ e, e ∈ es → ∀ c, c ∈ e → Flat c) (hn : n = es.length) (hcs : cs.take (n * k) = es.flatten)
    (h : ∀ H', St O H0 Lp H' bd → Exit.thenA (fun fr' H' g' => ∃ fr0 H0 g0, Down fr' H' g' fr0 H0 g0 ∧ wpA P N b Q fr0 H0 g0) Q .normal (Fr.of ((t, .sl .no k es) :: l)) H' g) :
    Exit.thenA (fun fr' H' g' => ∃ fr0 H0 g0, Down fr' H' g' fr0 H0 g0 ∧ wpA P N b Q fr0 H0 g0) Q .normal (Fr.of l) H g := by
  have hi : H i = some (.cells cs) := (hS.has (i, .cells cs) (by simp)).2.2
  have hnd := hS.nd
  rw [List.map_append, List.nodup_append] at hnd
  have hni : ∀ p, p ∈ Lp → p.1 ≠ i := fun p hp e => hnd.2.2 p.1 (List.mem_map_of_mem (f := (·.1)) hp) i (by simp) e
  have hOi : ¬ O i ∧ i < bd := by
    have := hS.has (i, .cells cs) (by simp)
    exact ⟨this.1, this.2.1⟩
  obtain ⟨fr0, H1, g1, hd, hw⟩ := h (H.set i .ice) ⟨fun j hj => ⟨(hS.old j hj).1, (Heap.set_ne _ _ (show j ≠ i from fun e => hOi.1 (by rw [← e]; exact hj))).trans (hS.old j hj).2⟩, fun p hp => by
    have := hS.has p (List.mem_append.2 (.inl hp))
    exact ⟨this.1, this.2.1, by rw [Heap.set_ne _ _ (hni p hp)]; exact this.2.2⟩, hnd.1, fun j hj => by rw [Heap.set_ne _ _ (by omega)]; exact hS.fr j hj⟩
  refine ⟨fr0, H1, g1, Down.trans (fun hf => ?_) hd, hw⟩
  obtain ⟨h1, h2⟩ := down_ice hi hf
  refine ⟨h1, fun G w hp => ?_⟩
  obtain ⟨q1, q2⟩ := h2 G w hp
  refine ⟨G, q1, q2, fun t' x hv => ?_⟩
  show VR G _ w (lk _ t') x
  by_cases e : t' = t
  · subst e
    rw [lk_same]
    have hv : VR G H w (lk l t') x := hv
    rw [ht] at hv
    exact ice_vr hi hp hk hes hn hcs hfl hv
  · rw [lk_ne e]
    exact VR.evo q2.evo hv
end

/-! ### A struct that holds a new slice -/
theorem fl_nil : ∀ c, c ∈ ([] : List AV) → Flat c := fun _ h => by simp at h
theorem fl_cons {x : Value} {cs : List AV} (t : ∀ c, c ∈ cs → Flat c) : ∀ c, c ∈ AV.v x :: cs → Flat c := fun c hc => by
  rcases List.mem_cons.1 hc with rfl | hc
  · exact ⟨_, rfl⟩
  · exact t c hc
theorem fl_map {α : Type} {f : α → List AV} {xs : List α} (h : ∀ x, ∀ c, c ∈ f x → Flat c) : ∀ e, e ∈ xs.map f → ∀ c, c ∈ e → Flat c := fun e he => by
  obtain ⟨x, _, rfl⟩ := List.mem_map.1 he
  exact h x
theorem each_map {α : Type} {f : α → List AV} {k : Nat} {xs : List α} (h : ∀ x, (f x).length = k) : ∀ e, e ∈ xs.map f → e.length = k := fun e he => by
  obtain ⟨x, _, rfl⟩ := List.mem_map.1 he
  exact h x
theorem id_ok : MkOk (fun s => s) := .inl rfl
theorem Flat.pure {c : AV} (h : Flat c) : Pure c := by obtain ⟨x, rfl⟩ := h; exact .v x
/-! ### Joins behind which a slice is read only -/
section
variable {P : Program} {N : Nat} {Q : Exit → Fr → Heap → Nat → Prop} {l : List (Nat × AV)} {H : Heap} {g : Nat} {a b : Code} {O : Nat → Prop} {H0 : Heap} {bd : Nat}
end
end Go.AM
