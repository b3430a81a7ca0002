/-
  Plain laws about the functions of pulses: the readings of the specification.
  Conditions: none.
-/
import Derived.Test.YtekplngjaddccaaPuL
set_option linter.all false
namespace Go.Law
open Go Go.AM

theorem bits_test : ∀ (is : List Nat) (first j : Nat), (bits first is).testBit j = (first.testBit j || is.contains j)
  | [], first, j => by simp [bits]
  | i :: is, first, j => by
    have h := bits_test is (first ||| 2 ^ i) j
    rw [show bits first (i :: is) = bits (first ||| 2 ^ i) is from rfl, h, Nat.testBit_or, Nat.testBit_two_pow]
    simp only [List.contains_cons, Bool.or_assoc]
    congr 1
    congr 1
    by_cases e : i = j
    · subst e; simp
    · have e' : ¬ j = i := fun h => e h.symm
      simp [e, e']
theorem less_congr {f g : Nat → Bool} (h : ∀ j, f j = g j) : ∀ (l : List Int) (i : Nat), less f i l = less g i l
  | [], _ => rfl
  | t :: l, i => by simp only [less, h i, less_congr h l]
/-- What the pulses without some read as. -/
def rd (p : Pulse) (is : List Nat) : Option (List Int) := clean p (less (fun j => is.contains j) 0 p.Times)
theorem rd_bits (p : Pulse) (is : List Nat) : clean p (less (bits 0 is).testBit 0 p.Times) = rd p is := by
  unfold rd
  rw [less_congr (g := fun j => is.contains j) fun j => by rw [bits_test]; simp]
end Go.Law
