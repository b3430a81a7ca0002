/-
  Plain laws about the functions of pulses: both lists of readings come from the same places.
  Conditions: none.
-/
import Derived.Test.YtekplngjaddccaaPuN
set_option linter.all false
namespace Go.Law
open Go Go.AM

def mkP (p : Pulse) (is : List Nat) : Option Reading_ := (rd p is).map fun l => (⟨((bits 0 is : Nat) : Int), l⟩ : Reading_)
def spots (p : Pulse) : List Nat := List.range' 0 p.Times.length
theorem readsK_eq (p : Pulse) (k : Nat) : readsK p k = (cmb k (spots p)).filterMap (mkP p) := by
  unfold readsK mkP spots
  congr 1
  funext is
  rw [rd_bits]
theorem readsTo_eq (p : Pulse) : ∀ (d a : Nat), readsTo p a d = ((List.range' a d).flatMap fun j => cmb j (spots p)).filterMap (mkP p)
  | 0, a => by simp [readsTo]
  | d + 1, a => by
    rw [List.range'_succ]
    simp only [readsTo, readsTo_eq p d (a + 1), readsK_eq, List.flatMap_cons, List.filterMap_append]
/-- The places of the code's readings, and of those of the specification. -/
def goodP (p : Pulse) (k : Nat) : List (List Nat) := (cmbs k (spots p)).filter fun is => (rd p is).isSome
def goodR (p : Pulse) (k : Nat) : List (List Nat) := (sub k (spots p)).filter fun is => (rd p is).isSome
theorem good_perm (p : Pulse) (k : Nat) : (goodR p k).Perm (goodP p k) := (sub_perm k (spots p)).filter _
/-- The list of a reading. -/
def listOf (p : Pulse) (is : List Nat) : List Int := (rd p is).getD []
theorem filterMap_good {α : Type} (p : Pulse) (g : List Nat → List Int → α) : ∀ L : List (List Nat), (L.filterMap fun is => (rd p is).map (g is)) = (L.filter fun is => (rd p is).isSome).map fun is => g is (listOf p is)
  | [] => rfl
  | is :: L => by
    simp only [List.filterMap_cons, List.filter_cons, listOf]
    cases h : rd p is with
    | none => simp only [Option.map_none, Option.isSome_none, Bool.false_eq_true, if_false]; exact filterMap_good p g L
    | some l => simp only [Option.map_some, Option.isSome_some, if_true, List.map_cons, h, Option.getD_some]; rw [filterMap_good p g L]; rfl
theorem readsTo_good (p : Pulse) (k : Nat) : readsTo p 0 (k + 1) = (goodP p k).map fun is => (⟨((bits 0 is : Nat) : Int), listOf p is⟩ : Reading_) := by
  rw [readsTo_eq, ← List.range_eq_range']
  exact filterMap_good p (fun is l => (⟨((bits 0 is : Nat) : Int), l⟩ : Reading_)) _
end Go.Law
