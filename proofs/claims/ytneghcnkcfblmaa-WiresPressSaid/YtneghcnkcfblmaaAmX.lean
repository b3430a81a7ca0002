/-
  The abstract machine: the rules for slices whose cells may be written to.
  Conditions: none; it speaks of any program.
-/
import Derived.Test.YtneghcnkcfblmaaAmW
set_option linter.all false
namespace Go.AM
open Go Go.RowKit

section
variable {P : Program} {N : Nat} {l : List (Nat × AV)} {H : Heap} {g : Nat} {lim : Option Nat} {g0 i : Nat} {ops : Array Oper} {K : Fr → Heap → Nat → Prop} {r : List Oper} {d : Nat} {ty : TypeId} {pos : String} {after : Array Edge}
  {O : Nat → Prop} {H0 : Heap} {L Lp : List (Nat × Blk)} {b : Nat}
theorem St.perm {L' : BL} (hS : St O H0 L H b) (h : L'.Perm L) : St O H0 L' H b := ⟨hS.old, fun p hp => hS.has p (h.mem_iff.1 hp), (h.map (·.1)).nodup_iff.2 hS.nd, hS.fr⟩
/-- Its block; there are as many elements as that. -/
def thawN (new n : Nat) (es : List (List AV)) : BL := if es.length = n then thawL new es else [(new, .ice), (new, .ice)]
theorem St.len {j n : Nat} {es : List (List AV)} (hS : St O H0 (Lp ++ thawN j n es) H b) : es.length = n := by
  by_cases h : es.length = n
  · exact h
  · have := hS.nd
    rw [List.map_append, List.nodup_append] at this
    have h2 := this.2.1
    unfold thawN at h2
    rw [if_neg h] at h2
    simp at h2
theorem St.thaw {j n : Nat} {es : List (List AV)} (hS : St O H0 (Lp ++ thawN j n es) H b) : St O H0 (Lp ++ thawL j es) H b := by
  have h := hS.len
  unfold thawN at hS
  rwa [if_pos h] at hS
/-- A call that returns what holds a new slice: a row of its own. -/
theorem o_own1 {F : Operand} {args : Array Operand} {ts : Array TypeId} {kf : FuncId} {first cap bs : List AV} {mk : AV → AV} {e k : Nat} {es : List (List AV)} (hS : St O H0 L H b) (hd : d < N) (ht : tgt (evL N l F) = some (kf, first, cap)) (ha : first ++ args.toList.map (evL N l) ++ cap = bs)
    (hs : Own0 P kf bs mk e k es) (hm : MkOk mk) (hp : ∀ a, a ∈ bs → Pure a) (hfl : ∀ e, e ∈ es → ∀ c, c ∈ e → Flat c) (hb : b ≤ g0 + i)
    (h : ∀ H', St O H0 ((g0 + i, .row e es.length) :: L) H' (g0 + i + 1) → runQ P N lim g0 ops K (i + 1) r (Fr.of ((d, mk (.sl (.id (g0 + i)) k es)) :: l)) H' g) :
    runQ P N lim g0 ops K i (⟨some d, .call { callee := .value F, args := args, argTypes := ts }, ty, pos, after, none⟩ :: r) (Fr.of l) H g := by
  simp only [runQ, stepQ, opQ, callOf, ev_of, ht, ha]
  refine CallQ.new1 (hs.row hm hp hfl) ?_
  rw [put_of hd]
  exact h _ (hS.add _ hb)
theorem Ok.tl {b' : Nat} {O : Nat → Prop} {H0 H : Heap} {Lp : BL} {ops : Array Oper} {i j n g0 : Nat} {xs : List Int} {z u : Int} (hS : St O H0 (Lp ++ thawN j n (xs.map cI)) H b') (hu : idx xs z = some u) (hb : b' ≤ g0) : Ok (some g0) ops i j := by
  have hne : xs.map cI ≠ [] := fun e => by
    have : xs = [] := by simpa using e
    rw [this] at hu
    unfold idx at hu
    split at hu <;> simp at hu
  have hT := hS.thaw
  unfold thawL at hT
  rw [if_neg hne] at hT
  have := (hT.has (j, .cells (xs.map cI).flatten) (by simp)).2.1
  exact .lt (Nat.lt_of_lt_of_le this hb)
end

section
variable {P : Program} {N : Nat} {Q : Exit → Fr → Heap → Nat → Prop} {l : List (Nat × AV)} {H : Heap} {g : Nat} {b : Code} {O : Nat → Prop} {H0 : Heap} {bd : Nat}
end

/-! ### A struct that holds a new slice -/
def aggAt (pre post : List AV) (s : AV) : AV := .agg (pre ++ s :: post)
theorem fl_nil : ∀ c, c ∈ ([] : List AV) → Flat c := fun _ h => by simp at h
theorem fl_cons {x : Value} {cs : List AV} (t : ∀ c, c ∈ cs → Flat c) : ∀ c, c ∈ AV.v x :: cs → Flat c := fun c hc => by
  rcases List.mem_cons.1 hc with rfl | hc
  · exact ⟨_, rfl⟩
  · exact t c hc
theorem fl_map {α : Type} {f : α → List AV} {xs : List α} (h : ∀ x, ∀ c, c ∈ f x → Flat c) : ∀ e, e ∈ xs.map f → ∀ c, c ∈ e → Flat c := fun e he => by
  obtain ⟨x, _, rfl⟩ := List.mem_map.1 he
  exact h x
theorem aggAt_ok {pre post : List AV} (h1 : ∀ c, c ∈ pre → Flat c) (h2 : ∀ c, c ∈ post → Flat c) : MkOk (aggAt pre post) := .inr ⟨pre, post, h1, h2, rfl⟩
theorem aggAt_le {pre post : List AV} : ∀ s s', Le s s' → Le (aggAt pre post s) (aggAt pre post s') := fun s s' h => by
  refine .agg _ _ (by simp) fun i c d hc hd => ?_
  by_cases q : i < pre.length
  · rw [List.getElem?_append_left q] at hc hd
    rw [hc] at hd
    injection hd with hd
    subst hd
    exact .refl _
  · rw [List.getElem?_append_right (by omega)] at hc hd
    cases hj : i - pre.length with
    | zero =>
      rw [hj] at hc hd
      simp at hc hd
      subst hc hd
      exact h
    | succ j =>
      rw [hj] at hc hd
      simp at hc hd
      rw [hc] at hd
      injection hd with hd
      subst hd
      exact .refl _
theorem Flat.pure {c : AV} (h : Flat c) : Pure c := by obtain ⟨x, rfl⟩ := h; exact .v x
theorem aggAt_in {pre post : List AV} {e k : Nat} {es : List (List AV)} (h1 : ∀ c, c ∈ pre → Flat c) (h2 : ∀ c, c ∈ post → Flat c) (hfl : ∀ e, e ∈ es → ∀ c, c ∈ e → Flat c) (H : Heap) (j : Nat) (h : H j = some (.row e es.length)) : In H (aggAt pre post (.sl (.id j) k es)) := by
  refine .agg _ fun c hc => ?_
  rcases List.mem_append.1 hc with hc | hc
  · exact (h1 c hc).pure.inH
  · rcases List.mem_cons.1 hc with rfl | hc
    · exact .sl _ _ _ (fun τ ht => by injection ht with ht; subst ht; exact ⟨_, _, h⟩) fun e he c hc => (hfl e he c hc).pure.inH
    · exact (h2 c hc).pure.inH

/-! ### Joins behind which a slice is read only -/
section
variable {P : Program} {N : Nat} {Q : Exit → Fr → Heap → Nat → Prop} {l : List (Nat × AV)} {H : Heap} {g : Nat} {a b : Code} {O : Nat → Prop} {H0 : Heap} {bd : Nat}
end
end Go.AM
