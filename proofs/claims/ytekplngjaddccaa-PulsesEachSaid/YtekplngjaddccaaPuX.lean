/-
  Plain laws about the functions of pulses: readings as parts of the times; the law of Fewest.
  Conditions: none.
-/
import Derived.Test.YtekplngjaddccaaPuW
set_option linter.all false
namespace Go.Law
open Go Go.AM

theorem cmb_up : ∀ (k i : Nat) (ps is : List Nat), is ∈ cmb k ps → is ∈ cmb k (i :: ps)
  | 0, _, _, _, h => by simpa [cmb] using h
  | k + 1, i, ps, is, h => by simp only [cmb, List.mem_append]; exact .inr h
theorem less_sub (f : Nat → Bool) : ∀ (l : List Int) (a : Nat), (less f a l).Sublist l
  | [], _ => .slnil
  | t :: l, a => by
    simp only [less]
    split
    · exact (less_sub f l (a + 1)).cons t
    · exact (less_sub f l (a + 1)).cons₂ t
theorem few_cases {p : Pulse} (hv : valid p = true) : (∃ k : Nat, k ≤ 3 ∧ fewR p = ((k : Int), 0) ∧ hasK p k = true ∧ ∀ j, j < k → hasK p j = false) ∨ (fewR p = (0, 3) ∧ ∀ j, j ≤ 3 → hasK p j = false) := by
  unfold fewR
  rw [if_pos hv]
  cases h0 : hasK p 0 with
  | true => exact .inl ⟨0, by omega, by simp, h0, fun j hj => by omega⟩
  | false =>
    cases h1 : hasK p 1 with
    | true => exact .inl ⟨1, by omega, by simp, h1, fun j hj => by rw [show j = 0 by omega]; exact h0⟩
    | false =>
      cases h2 : hasK p 2 with
      | true => exact .inl ⟨2, by omega, by simp, h2, fun j hj => by
          rcases (show j = 0 ∨ j = 1 by omega) with e | e <;> rw [e] <;> assumption⟩
      | false =>
        cases h3 : hasK p 3 with
        | true => exact .inl ⟨3, by omega, by simp, h3, fun j hj => by
            rcases (show j = 0 ∨ j = 1 ∨ j = 2 by omega) with e | e | e <;> rw [e] <;> assumption⟩
        | false => exact .inr ⟨by simp, fun j hj => by
            rcases (show j = 0 ∨ j = 1 ∨ j = 2 ∨ j = 3 by omega) with e | e | e | e <;> rw [e] <;> assumption⟩
/-- Trains that differ in nothing but the number of sparks, and the times. -/
def like (p q : Pulse) : Prop := p.Letters = q.Letters ∧ p.Numbers = q.Numbers ∧ p.Pitch = q.Pitch ∧ p.Slack = q.Slack ∧ p.Gap = q.Gap ∧ p.Pause = q.Pause
theorem cl_like {p q : Pulse} (h : like p q) : ∀ (l : List Int) (y g t : Int) (out : List Int), cl p y g t out l = cl q y g t out l := by
  obtain ⟨p1, p2, p3, p4, p5, p6, p7, p8⟩ := p
  obtain ⟨q1, q2, q3, q4, q5, q6, q7, q8⟩ := q
  obtain ⟨h1, h2, h3, h4, h5, h6⟩ := h
  simp only at h1 h2 h3 h4 h5 h6
  subst h1 h2 h3 h4 h5 h6
  intro l
  induction l with
  | nil => intro y g t out; rfl
  | cons x l ih =>
    intro y g t out
    simp only [cl, good, selOf, sameD, ih]
    rfl
theorem clean_like {p q : Pulse} (h : like p q) (l : List Int) : clean p l = clean q l := by
  cases l with
  | nil => rfl
  | cons x l => exact cl_like h l _ _ _ _
def readyB (p : Pulse) : Bool := !(decide (p.Times.length > 40) || (valid p && decide (p.Times.length > 14))) && valid p
theorem ready_eq {n : Nat} (p : Pulse) (hn : 1000 ≤ n) : law13_ready n p = some (readyB p) := by
  unfold law13_ready law13_ready_j1
  rw [Far_eq p hn]
  simp only [Option.bind_some]
  unfold readyB
  cases hfar : (decide (p.Times.length > 40) || (valid p && decide (p.Times.length > 14))) with
  | true => rfl
  | false =>
    simp only [Bool.not_false, if_true]
    simp only [Bool.or_eq_false_iff, decide_eq_false_iff_not] at hfar
    rw [rCheck_eq p (by omega) (by omega)]
    cases valid p <;> rfl
theorem ready_iff {p : Pulse} : readyB p = true ↔ valid p = true ∧ p.Times.length ≤ 14 := by
  unfold readyB
  cases valid p <;> simp <;> omega
theorem openR_val {p : Pulse} (hv : valid p = true) : (openR p).2 = (if goodP p p.Sparks.toNat = [] then 3 else 0) ∧ (openR p).1.length = (goodP p p.Sparks.toNat).length := by
  unfold openR
  rw [if_pos hv]
  split
  · rename_i h; simp [h]
  · simp
end Go.Law
