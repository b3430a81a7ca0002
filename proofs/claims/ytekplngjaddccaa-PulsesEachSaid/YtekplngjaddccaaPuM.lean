/-
  Plain laws about the functions of pulses: the readings of the specification.
  Conditions: none.
-/
import Derived.Test.YtekplngjaddccaaPuL
set_option linter.all false
namespace Go.Law
open Go Go.AM

theorem bits_test : ∀ (is : List Nat) (first j : Nat), (bits first is).testBit j = (first.testBit j || is.contains j)
  | [], first, j => by simp [bits]
  | i :: is, first, j => by
    have h := bits_test is (first ||| 2 ^ i) j
    rw [show bits first (i :: is) = bits (first ||| 2 ^ i) is from rfl, h, Nat.testBit_or, Nat.testBit_two_pow]
    simp only [List.contains_cons, Bool.or_assoc]
    congr 1
    congr 1
    by_cases e : i = j
    · subst e; simp
    · have e' : ¬ j = i := fun h => e h.symm
      simp [e, e']
theorem less_congr {f g : Nat → Bool} (h : ∀ j, f j = g j) : ∀ (l : List Int) (i : Nat), less f i l = less g i l
  | [], _ => rfl
  | t :: l, i => by simp only [less, h i, less_congr h l]
/-- What the pulses without some read as. -/
def rd (p : Pulse) (is : List Nat) : Option (List Int) := clean p (less (fun j => is.contains j) 0 p.Times)
theorem rd_bits (p : Pulse) (is : List Nat) : clean p (less (bits 0 is).testBit 0 p.Times) = rd p is := by
  unfold rd
  rw [less_congr (g := fun j => is.contains j) fun j => by rw [bits_test]; simp]
theorem contains_ints (is : List Nat) (j : Nat) : (ints' is).contains (j : Int) = is.contains j := by
  induction is with
  | nil => rfl
  | cons i is ih =>
    simp only [ints', List.map_cons, List.contains_cons] at ih ⊢
    rw [ih]
    congr 1
    by_cases e : j = i
    · simp [e]
    · have h1 : (((j : Int)) == (i : Int)) = false := by simp; omega
      have h2 : (j == i) = false := by simpa using e
      rw [h1, h2]
theorem In_eq {n : Nat} {l : List Int} (x : Int) (hs : l.length < 1048576) (hn : l.length < n) : ref01_In n l x = some (l.contains x) := by
  have key : ∀ (k pre : List Int) (m : Nat), l = pre ++ k → k.length < m → ref01_In_l1 l x m (pre.length : Int) = some (k.contains x) := by
    intro k
    induction k with
    | nil =>
      intro pre m he hm
      obtain ⟨m, rfl⟩ : ∃ k, m = k + 1 := ⟨m - 1, by omega⟩
      simp [ref01_In_l1, ref01_In_l1_b, ref01_In_j1, he]
    | cons y k ih =>
      intro pre m he hm
      simp at hm
      have hl : l.length = pre.length + (k.length + 1) := by simp [he]
      obtain ⟨m, rfl⟩ : ∃ k, m = k + 1 := ⟨m - 1, by omega⟩
      have h := ih (pre ++ [y]) m (by simp [he]) (by omega)
      simp only [ref01_In_l1, ref01_In_l1_b]
      rw [if_pos (by simp <;> omega), show idx l (pre.length : Int) = some y by rw [he, idx_mid], w64_id (by omega) (by omega)]
      simp only [Option.bind_some]
      by_cases hb : y = x
      · simp [hb]
      · rw [if_neg (by simpa using hb)]
        have hb' : ¬ x = y := fun e => hb e.symm
        simpa [hb'] using h
  exact key l [] n rfl hn
theorem rLess_eq {n : Nat} (times sparks : List Int) (hl : times.length ≤ 1000) (hsp : sparks.length ≤ 1000) (hn : 1010 ≤ n) : ref13_Less n times sparks = some (less (fun j => sparks.contains (j : Int)) 0 times) := by
  have key : ∀ (l pre : List Int) (m : Nat) (left : List Int), times = pre ++ l → l.length < m → left.length ≤ pre.length →
      ref13_Less_l1 n times sparks m left (pre.length : Int) = some (left ++ less (fun j => sparks.contains (j : Int)) pre.length l) := by
    intro l
    induction l with
    | nil =>
      intro pre m left he hm hlen
      obtain ⟨m, rfl⟩ : ∃ k, m = k + 1 := ⟨m - 1, by omega⟩
      simp only [ref13_Less_l1, ref13_Less_l1_b, ref13_Less_j1]
      rw [if_neg (by simp [he])]
      simp [less]
    | cons x l ih =>
      intro pre m left he hm hlen
      simp at hm
      have hl : times.length = pre.length + (l.length + 1) := by simp [he]
      obtain ⟨m, rfl⟩ : ∃ k, m = k + 1 := ⟨m - 1, by omega⟩
      simp only [ref13_Less_l1, ref13_Less_l1_b]
      rw [if_pos (by simp; omega), In_eq (pre.length : Int) (by omega) (by omega)]
      simp only [Option.bind_some, ref13_Less_j2]
      have hc : (((pre ++ [x]).length : Nat) : Int) = (pre.length : Int) + 1 := by simp
      cases hbit : sparks.contains (pre.length : Int) with
      | true =>
        simp only [Bool.not_true, Bool.false_eq_true, if_false]
        rw [w64_id (by omega) (by omega)]
        have h := ih (pre ++ [x]) m left (by simp [he]) (by omega) (by simp; omega)
        rw [hc] at h
        rw [h]
        simp only [less, hbit, if_true]
        simp
      | false =>
        simp only [Bool.not_false, if_true]
        rw [show idx times (pre.length : Int) = some x by rw [he, idx_mid]]
        simp only [Option.bind_some]
        rw [app_ok (by simp; omega)]
        simp only [Option.bind_some]
        rw [w64_id (by omega) (by omega)]
        have h := ih (pre ++ [x]) m (left ++ [x]) (by simp [he]) (by omega) (by simp; omega)
        rw [hc] at h
        rw [h]
        simp only [less, hbit, Bool.false_eq_true, if_false]
        simp
  exact key times [] n [] rfl (by omega) (by simp)
end Go.Law
