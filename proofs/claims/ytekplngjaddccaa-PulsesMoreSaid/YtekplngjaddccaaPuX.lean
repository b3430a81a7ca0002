/-
  Plain laws about the functions of pulses: readings as parts of the times; the law of Fewest.
  Conditions: none.
-/
import Derived.Test.YtekplngjaddccaaPuW
set_option linter.all false
namespace Go.Law
open Go Go.AM

/-- Trains that differ in nothing but the number of sparks, and the times. -/
def like (p q : Pulse) : Prop := p.Letters = q.Letters ∧ p.Numbers = q.Numbers ∧ p.Pitch = q.Pitch ∧ p.Slack = q.Slack ∧ p.Gap = q.Gap ∧ p.Pause = q.Pause
theorem cl_like {p q : Pulse} (h : like p q) : ∀ (l : List Int) (y g t : Int) (out : List Int), cl p y g t out l = cl q y g t out l := by
  obtain ⟨p1, p2, p3, p4, p5, p6, p7, p8⟩ := p
  obtain ⟨q1, q2, q3, q4, q5, q6, q7, q8⟩ := q
  obtain ⟨h1, h2, h3, h4, h5, h6⟩ := h
  simp only at h1 h2 h3 h4 h5 h6
  subst h1 h2 h3 h4 h5 h6
  intro l
  induction l with
  | nil => intro y g t out; rfl
  | cons x l ih =>
    intro y g t out
    simp only [cl, good, selOf, sameD, ih]
    rfl
theorem clean_like {p q : Pulse} (h : like p q) (l : List Int) : clean p l = clean q l := by
  cases l with
  | nil => rfl
  | cons x l => exact cl_like h l _ _ _ _
def readyB (p : Pulse) : Bool := !(decide (p.Times.length > 40) || (valid p && decide (p.Times.length > 14))) && valid p
theorem ready_eq {n : Nat} (p : Pulse) (hn : 1000 ≤ n) : law13_ready n p = some (readyB p) := by
  unfold law13_ready law13_ready_j1
  rw [Far_eq p hn]
  simp only [Option.bind_some]
  unfold readyB
  cases hfar : (decide (p.Times.length > 40) || (valid p && decide (p.Times.length > 14))) with
  | true => rfl
  | false =>
    simp only [Bool.not_false, if_true]
    simp only [Bool.or_eq_false_iff, decide_eq_false_iff_not] at hfar
    rw [rCheck_eq p (by omega) (by omega)]
    cases valid p <;> rfl
theorem ready_iff {p : Pulse} : readyB p = true ↔ valid p = true ∧ p.Times.length ≤ 14 := by
  unfold readyB
  cases valid p <;> simp <;> omega
theorem isKnown_eq (e : Int) : law13_isKnown e = some (e == 0 || e == 3) := by
  unfold law13_isKnown law13_isKnown_j1
  cases e == 0 <;> simp
theorem openR_val {p : Pulse} (hv : valid p = true) : (openR p).2 = (if goodP p p.Sparks.toNat = [] then 3 else 0) ∧ (openR p).1.length = (goodP p p.Sparks.toNat).length := by
  unfold openR
  rw [if_pos hv]
  split
  · rename_i h; simp [h]
  · simp
theorem valid_sparks {p : Pulse} {k : Int} (hv : valid p = true) (h0 : 0 ≤ k) (h3 : k ≤ 3) : valid (⟨p.Letters, p.Numbers, p.Pitch, p.Slack, p.Gap, p.Pause, k, p.Times⟩ : Pulse) = true := by
  simp only [valid, Bool.and_eq_true, inR_iff, decide_eq_true_eq] at hv ⊢
  obtain ⟨⟨⟨⟨⟨⟨⟨⟨h1, h2⟩, h3⟩, h4⟩, h5⟩, h6⟩, h7⟩, h8⟩, h9⟩ := hv
  exact ⟨⟨⟨⟨⟨⟨⟨⟨h1, h2⟩, h3⟩, h4⟩, h5⟩, h6⟩, by omega⟩, h8⟩, h9⟩
end Go.Law
