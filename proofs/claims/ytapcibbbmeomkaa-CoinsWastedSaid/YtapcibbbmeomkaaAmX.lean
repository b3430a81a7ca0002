/-
  The abstract machine: the rules for slices whose cells may be written to.
  Conditions: none; it speaks of any program.
-/
import Derived.Test.YtapcibbbmeomkaaAmW
set_option linter.all false
namespace Go.AM
open Go Go.RowKit

section
variable {P : Program} {N : Nat} {l : List (Nat × AV)} {H : Heap} {g : Nat} {lim : Option Nat} {g0 i : Nat} {ops : Array Oper} {K : Fr → Heap → Nat → Prop} {r : List Oper} {d : Nat} {ty : TypeId} {pos : String} {after : Array Edge}
  {O : Nat → Prop} {H0 : Heap} {L Lp : List (Nat × Blk)} {b : Nat}
theorem St.perm {L' : BL} (hS : St O H0 L H b) (h : L'.Perm L) : St O H0 L' H b := ⟨hS.old, fun p hp => hS.has p (h.mem_iff.1 hp), (h.map (·.1)).nodup_iff.2 hS.nd, hS.fr⟩
/-- Its block; there are as many elements as that. -/
def thawN (new n : Nat) (es : List (List AV)) : BL := if es.length = n then thawL new es else [(new, .ice), (new, .ice)]
theorem St.len {j n : Nat} {es : List (List AV)} (hS : St O H0 (Lp ++ thawN j n es) H b) : es.length = n := by
  by_cases h : es.length = n
  · exact h
  · have := hS.nd
    rw [List.map_append, List.nodup_append] at this
    have h2 := this.2.1
    unfold thawN at h2
    rw [if_neg h] at h2
    simp at h2
theorem St.thaw {j n : Nat} {es : List (List AV)} (hS : St O H0 (Lp ++ thawN j n es) H b) : St O H0 (Lp ++ thawL j es) H b := by
  have h := hS.len
  unfold thawN at hS
  rwa [if_pos h] at hS
theorem Ok.tl {b' : Nat} {O : Nat → Prop} {H0 H : Heap} {Lp : BL} {ops : Array Oper} {i j n g0 : Nat} {xs : List Int} {z u : Int} (hS : St O H0 (Lp ++ thawN j n (xs.map cI)) H b') (hu : idx xs z = some u) (hb : b' ≤ g0) : Ok (some g0) ops i j := by
  have hne : xs.map cI ≠ [] := fun e => by
    have : xs = [] := by simpa using e
    rw [this] at hu
    unfold idx at hu
    split at hu <;> simp at hu
  have hT := hS.thaw
  unfold thawL at hT
  rw [if_neg hne] at hT
  have := (hT.has (j, .cells (xs.map cI).flatten) (by simp)).2.1
  exact .lt (Nat.lt_of_lt_of_le this hb)
end

section
variable {P : Program} {N : Nat} {Q : Exit → Fr → Heap → Nat → Prop} {l : List (Nat × AV)} {H : Heap} {g : Nat} {b : Code} {O : Nat → Prop} {H0 : Heap} {bd : Nat}
end

/-! ### A struct that holds a new slice -/
theorem Flat.pure {c : AV} (h : Flat c) : Pure c := by obtain ⟨x, rfl⟩ := h; exact .v x
/-! ### Joins behind which a slice is read only -/
section
variable {P : Program} {N : Nat} {Q : Exit → Fr → Heap → Nat → Prop} {l : List (Nat × AV)} {H : Heap} {g : Nat} {a b : Code} {O : Nat → Prop} {H0 : Heap} {bd : Nat}
end
end Go.AM
