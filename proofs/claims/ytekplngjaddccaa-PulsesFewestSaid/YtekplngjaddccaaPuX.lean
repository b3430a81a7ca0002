/-
  Plain laws about the functions of pulses: readings as parts of the times; the law of Fewest.
  Conditions: none.
-/
import Derived.Test.YtekplngjaddccaaPuW
set_option linter.all false
namespace Go.Law
open Go Go.AM

theorem few_cases {p : Pulse} (hv : valid p = true) : (∃ k : Nat, k ≤ 3 ∧ fewR p = ((k : Int), 0) ∧ hasK p k = true ∧ ∀ j, j < k → hasK p j = false) ∨ (fewR p = (0, 3) ∧ ∀ j, j ≤ 3 → hasK p j = false) := by
  unfold fewR
  rw [if_pos hv]
  cases h0 : hasK p 0 with
  | true => exact .inl ⟨0, by omega, by simp, h0, fun j hj => by omega⟩
  | false =>
    cases h1 : hasK p 1 with
    | true => exact .inl ⟨1, by omega, by simp, h1, fun j hj => by rw [show j = 0 by omega]; exact h0⟩
    | false =>
      cases h2 : hasK p 2 with
      | true => exact .inl ⟨2, by omega, by simp, h2, fun j hj => by
          rcases (show j = 0 ∨ j = 1 by omega) with e | e <;> rw [e] <;> assumption⟩
      | false =>
        cases h3 : hasK p 3 with
        | true => exact .inl ⟨3, by omega, by simp, h3, fun j hj => by
            rcases (show j = 0 ∨ j = 1 ∨ j = 2 by omega) with e | e | e <;> rw [e] <;> assumption⟩
        | false => exact .inr ⟨by simp, fun j hj => by
            rcases (show j = 0 ∨ j = 1 ∨ j = 2 ∨ j = 3 by omega) with e | e | e | e <;> rw [e] <;> assumption⟩
theorem good_nil {p : Pulse} {k : Nat} : goodP p k = [] ↔ ∀ j, j ≤ k → hasK p j = false := by
  constructor
  · intro h j hj
    cases hh : hasK p j with
    | false => rfl
    | true =>
      obtain ⟨is, h1, h2, h3⟩ := hasK_iff.1 hh
      have : is ∈ goodP p k := mem_goodP.2 ⟨by omega, h2, h3⟩
      rw [h] at this
      simp at this
  · intro h
    cases hg : goodP p k with
    | nil => rfl
    | cons g G =>
      obtain ⟨x1, x2, x3⟩ := mem_goodP.1 (show g ∈ goodP p k by rw [hg]; simp)
      have := h _ x1
      rw [hasK_iff.2 ⟨g, rfl, x2, x3⟩] at this
      cases this
/-- Trains that differ in nothing but the number of sparks, and the times. -/
def like (p q : Pulse) : Prop := p.Letters = q.Letters ∧ p.Numbers = q.Numbers ∧ p.Pitch = q.Pitch ∧ p.Slack = q.Slack ∧ p.Gap = q.Gap ∧ p.Pause = q.Pause
theorem cl_like {p q : Pulse} (h : like p q) : ∀ (l : List Int) (y g t : Int) (out : List Int), cl p y g t out l = cl q y g t out l := by
  obtain ⟨p1, p2, p3, p4, p5, p6, p7, p8⟩ := p
  obtain ⟨q1, q2, q3, q4, q5, q6, q7, q8⟩ := q
  obtain ⟨h1, h2, h3, h4, h5, h6⟩ := h
  simp only at h1 h2 h3 h4 h5 h6
  subst h1 h2 h3 h4 h5 h6
  intro l
  induction l with
  | nil => intro y g t out; rfl
  | cons x l ih =>
    intro y g t out
    simp only [cl, good, selOf, sameD, ih]
    rfl
theorem clean_like {p q : Pulse} (h : like p q) (l : List Int) : clean p l = clean q l := by
  cases l with
  | nil => rfl
  | cons x l => exact cl_like h l _ _ _ _
theorem hasK_like {p q : Pulse} (h : like p q) (ht : p.Times = q.Times) (k : Nat) : hasK p k = hasK q k := by
  unfold hasK spots rd
  rw [ht]
  congr 1
  funext is
  rw [clean_like h]
def readyB (p : Pulse) : Bool := !(decide (p.Times.length > 40) || (valid p && decide (p.Times.length > 14))) && valid p
theorem ready_eq {n : Nat} (p : Pulse) (hn : 1000 ≤ n) : law13_ready n p = some (readyB p) := by
  unfold law13_ready law13_ready_j1
  rw [Far_eq p hn]
  simp only [Option.bind_some]
  unfold readyB
  cases hfar : (decide (p.Times.length > 40) || (valid p && decide (p.Times.length > 14))) with
  | true => rfl
  | false =>
    simp only [Bool.not_false, if_true]
    simp only [Bool.or_eq_false_iff, decide_eq_false_iff_not] at hfar
    rw [rCheck_eq p (by omega) (by omega)]
    cases valid p <;> rfl
theorem ready_iff {p : Pulse} : readyB p = true ↔ valid p = true ∧ p.Times.length ≤ 14 := by
  unfold readyB
  cases valid p <;> simp <;> omega
theorem isKnown_eq (e : Int) : law13_isKnown e = some (e == 0 || e == 3) := by
  unfold law13_isKnown law13_isKnown_j1
  cases e == 0 <;> simp
theorem openR_val {p : Pulse} (hv : valid p = true) : (openR p).2 = (if goodP p p.Sparks.toNat = [] then 3 else 0) ∧ (openR p).1.length = (goodP p p.Sparks.toNat).length := by
  unfold openR
  rw [if_pos hv]
  split
  · rename_i h; simp [h]
  · simp
theorem valid_sparks {p : Pulse} {k : Int} (hv : valid p = true) (h0 : 0 ≤ k) (h3 : k ≤ 3) : valid (⟨p.Letters, p.Numbers, p.Pitch, p.Slack, p.Gap, p.Pause, k, p.Times⟩ : Pulse) = true := by
  simp only [valid, Bool.and_eq_true, inR_iff, decide_eq_true_eq] at hv ⊢
  obtain ⟨⟨⟨⟨⟨⟨⟨⟨h1, h2⟩, h3⟩, h4⟩, h5⟩, h6⟩, h7⟩, h8⟩, h9⟩ := hv
  exact ⟨⟨⟨⟨⟨⟨⟨⟨h1, h2⟩, h3⟩, h4⟩, h5⟩, h6⟩, by omega⟩, h8⟩, h9⟩
theorem law_PulsesFewest (p : Pulse) : law13_PulsesFewest 20000 p = some true := by
  unfold law13_PulsesFewest
  rw [ready_eq p (by omega)]
  simp only [Option.bind_some]
  cases hr : readyB p with
  | false => simp [works_eq]
  | true =>
    obtain ⟨hv, hl⟩ := ready_iff.1 hr
    obtain ⟨v1, v2, v3, v4, v5, v6, v7, v8, v9⟩ := valid_iff hv
    obtain ⟨o1, o2⟩ := openR_val hv
    simp only [Bool.not_true, Bool.false_eq_true, if_false]
    rw [Fewest_eq p (by omega) (by omega), Many_eq p (by omega) (by omega)]
    simp only [Option.bind_some, isKnown_eq]
    rcases few_cases hv with ⟨k, hk, hfew, h1, h2⟩ | ⟨hfew, h2⟩
    · have many : ∀ j : Nat, j ≤ 3 → pulses_Many 20000 (⟨p.Letters, p.Numbers, p.Pitch, p.Slack, p.Gap, p.Pause, (j : Int), p.Times⟩ : Pulse) = some (((goodP (⟨p.Letters, p.Numbers, p.Pitch, p.Slack, p.Gap, p.Pause, (j : Int), p.Times⟩ : Pulse) j).length : Int), if j < k then 3 else 0) := by
        intro j hj
        rw [Many_eq _ (by show p.Times.length ≤ 1000; omega) (by omega)]
        obtain ⟨m1, m2⟩ := openR_val (valid_sparks hv (k := (j : Int)) (by omega) (by omega))
        rw [m1, m2]
        simp only [Int.toNat_natCast]
        congr 2
        have hh : ∀ i, hasK (⟨p.Letters, p.Numbers, p.Pitch, p.Slack, p.Gap, p.Pause, (j : Int), p.Times⟩ : Pulse) i = hasK p i := fun i => hasK_like (p := ⟨p.Letters, p.Numbers, p.Pitch, p.Slack, p.Gap, p.Pause, (j : Int), p.Times⟩) (q := p) ⟨rfl, rfl, rfl, rfl, rfl, rfl⟩ rfl i
        by_cases hjk : j < k
        · rw [if_pos hjk, if_pos (good_nil.2 fun i hi => by rw [hh]; exact h2 i (by omega))]
        · rw [if_neg hjk, if_neg fun e => by
            have := good_nil.1 e k (by omega)
            rw [hh, h1] at this
            cases this]
      have hb : goodP p p.Sparks.toNat = [] ↔ p.Sparks < (k : Int) := by
        rw [good_nil]
        constructor
        · intro h
          by_cases hc : p.Sparks < (k : Int)
          · exact hc
          · have := h k (by omega)
            rw [h1] at this
            cases this
        · intro h j hj
          exact h2 j (by omega)
      rw [hfew, o1, o2]
      have m1 := many k hk
      rw [if_neg (by omega)] at m1
      have tail : law13_PulsesFewest_j1 20000 p ((k : Int), 0) false = some true := by
        unfold law13_PulsesFewest_j1
        simp only [Bool.false_eq_true, if_false, bne_self_eq_false]
        rw [Copy_eq p (by omega)]
        simp only [Option.bind_some]
        rw [m1]
        simp only [Option.bind_some, bne_self_eq_false, Bool.false_eq_true, if_false]
        by_cases hk0 : k = 0
        · subst hk0
          simp [works_eq]
        · rw [if_neg (by simp; omega), w64_id (by omega) (by omega), show (k : Int) - 1 = ((k - 1 : Nat) : Int) by omega, many (k - 1) (by omega), if_pos (by omega)]
          simp [works_eq, law13_PulsesFewest_j2]
      by_cases hg : goodP p p.Sparks.toNat = []
      · have hlt := hb.1 hg
        simp [hg, tail]
        rw [if_neg (by omega), if_neg (by omega), if_neg (by omega)]
      · have hlt : ¬ p.Sparks < (k : Int) := fun h => hg (hb.2 h)
        have hpos := List.length_pos_iff.2 hg
        simp [hg, tail]
        rw [if_neg (by omega), if_neg (by omega), if_neg (by omega), show decide (((goodP p p.Sparks.toNat).length : Int) < 1) = false by simp; omega]
        exact tail
    · rw [hfew, o1, o2]
      have hg : goodP p p.Sparks.toNat = [] := good_nil.2 fun j hj => h2 j (by omega)
      simp [hg, law13_PulsesFewest_j1, works_eq]
end Go.Law
