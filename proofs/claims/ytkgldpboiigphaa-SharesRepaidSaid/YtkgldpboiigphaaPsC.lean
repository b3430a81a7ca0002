/-
  Plain laws about the functions of shares: the least takings for a goal.
  Conditions: none.
-/
import Derived.Test.YtkgldpboiigphaaPsB
set_option linter.all false
namespace Go.Law
open Go Go.AM
def ownT (s : Share) (t : Int) : Int := (setl s.Clauses s.Loan t 0).1.Split.Owner
def enf (s : Share) (goal : Int) : Nat → Int → Int × Int
  | 0, _ => (0, 3)
  | k + 1, v => if ownT s v ≥ goal then (v, 0) else enf s goal k (v + 1)
def enough (s : Share) (goal : Int) : Int × Int := enf s goal 10000 0
theorem Enough_eq {n : Nat} (hn : 10010 ≤ n) (s : Share) (goal : Int) :
    shares_Enough n s goal = some (if okS s then (if inR goal 0 9999 then enough s goal else (0, 1)) else (0, 90)) := by
  unfold shares_Enough
  rw [isCents_eq]
  simp only [Option.bind_some]
  rw [ask_eq (by omega)]
  simp only [Option.bind_some]
  by_cases hs : okS s = true
  · simp only [hs, if_true]
    by_cases ht : inR goal 0 9999 = true
    · simp only [ht, if_true, bne_self_eq_false, Bool.false_eq_true, if_false]
      obtain ⟨h5, hok, hlo⟩ := (okS_iff _).1 hs
      have key : ∀ (k m : Nat) (v : Int), 0 ≤ v → v + k = 10000 → k < m → shares_Enough_l1 n s goal m v = some (enf s goal k v) := by
        intro k
        induction k with
        | zero =>
          intro m v h0 hv hm
          obtain ⟨m, rfl⟩ : ∃ k, m = k + 1 := ⟨m - 1, by omega⟩
          simp only [shares_Enough_l1, shares_Enough_l1_b]
          rw [if_neg (by simp; omega)]
          rfl
        | succ k ih =>
          intro m v h0 hv hm
          obtain ⟨m, rfl⟩ : ∃ k, m = k + 1 := ⟨m - 1, by omega⟩
          simp only [shares_Enough_l1, shares_Enough_l1_b]
          rw [if_pos (by simp; omega), w64_id (by omega) (by omega), owners_eq hok (by omega) (by omega) hlo (by omega)]
          simp only [Option.bind_some, enf, decide_eq_true_eq]
          have e : (setl s.Clauses s.Loan v 0).1.Split.Owner = ownT s v := rfl
          rw [e]
          by_cases h : ownT s v ≥ goal
          · rw [if_pos h, if_pos h]
          · rw [if_neg h, if_neg h]
            exact ih m (v + 1) (by omega) (by omega) (by omega)
      exact key 10000 n 0 (by omega) (by omega) (by omega)
    · simp [ht]
  · simp [hs]
theorem rEnough_eq {n : Nat} (hn : 10010 ≤ n) (s : Share) (goal : Int) :
    ref09_Enough n s goal = some (if okS s then (if inR goal 0 9999 then enough s goal else (0, 1)) else (0, 90)) := by
  unfold ref09_Enough
  rw [IsCents_eq]
  simp only [Option.bind_some]
  rw [rask_eq (by omega)]
  simp only [Option.bind_some]
  by_cases hs : okS s = true
  · simp only [hs, if_true]
    by_cases ht : inR goal 0 9999 = true
    · simp only [ht, if_true, bne_self_eq_false, Bool.false_eq_true, if_false]
      obtain ⟨h5, hok, hlo⟩ := (okS_iff _).1 hs
      have key : ∀ (k m : Nat) (v : Int), 0 ≤ v → v + k = 10000 → k < m → ref09_Enough_l1 n s goal m v = some (enf s goal k v) := by
        intro k
        induction k with
        | zero =>
          intro m v h0 hv hm
          obtain ⟨m, rfl⟩ : ∃ k, m = k + 1 := ⟨m - 1, by omega⟩
          simp only [ref09_Enough_l1, ref09_Enough_l1_b]
          rw [if_neg (by simp; omega)]
          rfl
        | succ k ih =>
          intro m v h0 hv hm
          obtain ⟨m, rfl⟩ : ∃ k, m = k + 1 := ⟨m - 1, by omega⟩
          simp only [ref09_Enough_l1, ref09_Enough_l1_b]
          rw [if_pos (by simp; omega), w64_id (by omega) (by omega), Gone_eq hok (by omega) (by omega) hlo (by omega) (by omega)]
          simp only [Option.bind_some, enf, decide_eq_true_eq]
          have e : (setl s.Clauses s.Loan v 0).1.Split.Owner = ownT s v := rfl
          rw [e]
          by_cases h : ownT s v ≥ goal
          · rw [if_pos h, if_pos h]
          · rw [if_neg h, if_neg h]
            exact ih m (v + 1) (by omega) (by omega) (by omega)
      exact key 10000 n 0 (by omega) (by omega) (by omega)
    · simp [ht]
  · simp [hs]
theorem law_SharesEnough (s : Share) (goal : Int) : law09_SharesEnough 20000 s goal = some true := by
  unfold law09_SharesEnough
  rw [far_eq]
  simp only [Option.bind_some]
  by_cases hf : (s.Clauses.length : Int) > 40
  · rw [if_pos (by simpa using hf), works_eq]
    rfl
  · rw [if_neg (by simpa using hf), Copy_eq s (by omega)]
    simp only [Option.bind_some]
    rw [Enough_eq (by omega), rEnough_eq (by omega)]
    simp only [Option.bind_some]
    rw [same_refl s (by omega) (by omega), works_eq]
    simp [law09_SharesEnough_j1]
theorem isShare_eq {n : Nat} (hn : 6 ≤ n) (s : Share) : law09_isShare n s = some (okS s) := by
  unfold law09_isShare law09_isShare_j1
  rw [far_eq]
  simp only [Option.bind_some]
  by_cases hf : (s.Clauses.length : Int) > 40
  · rw [if_neg (by simpa using hf)]
    have : okS s = false := by
      cases h : okS s with
      | false => rfl
      | true => have := ((okS_iff s).1 h).1; omega
    rw [this]
  · rw [if_pos (by simpa using hf), rCheck_eq hn]
    cases okS s <;> rfl
theorem enf_spec (s : Share) (goal : Int) : ∀ (k : Nat) (v : Int),
    ((enf s goal k v).2 = 0 ∧ v ≤ (enf s goal k v).1 ∧ (enf s goal k v).1 < v + k ∧ goal ≤ ownT s (enf s goal k v).1 ∧ ∀ u, v ≤ u → u < (enf s goal k v).1 → ownT s u < goal) ∨
    ((enf s goal k v).2 = 3 ∧ ∀ u, v ≤ u → u < v + k → ownT s u < goal)
  | 0, v => .inr ⟨rfl, fun u h1 h2 => by omega⟩
  | k + 1, v => by
    unfold enf
    by_cases h : ownT s v ≥ goal
    · rw [if_pos h]
      exact .inl ⟨rfl, by simp, by simp; omega, h, fun u h1 h2 => by simp at h2; omega⟩
    · rw [if_neg h]
      rcases enf_spec s goal k (v + 1) with ⟨h1, h2, h3, h4, h5⟩ | ⟨h1, h2⟩
      · refine .inl ⟨h1, by omega, by omega, h4, fun u h6 h7 => ?_⟩
        by_cases hu : u = v
        · subst hu; omega
        · exact h5 u (by omega) h7
      · refine .inr ⟨h1, fun u h6 h7 => ?_⟩
        by_cases hu : u = v
        · subst hu; omega
        · exact h2 u (by omega) (by omega)
theorem law_SharesGoal (s : Share) (goal : Int) (x : More) : law09_SharesGoal 20000 s goal x = some true := by
  have hskip : law09_SharesGoal_j1 20000 s goal x true = some true := by
    unfold law09_SharesGoal_j1
    rw [if_pos rfl, works_eq]
    rfl
  unfold law09_SharesGoal
  rw [isShare_eq (by omega)]
  simp only [Option.bind_some, IsCents_eq]
  by_cases hs : okS s = true
  case neg => simp [hs, hskip]
  by_cases h1 : inR goal 0 9999 = true
  case neg => simp [hs, h1, hskip]
  by_cases h2 : inR x.Goal 0 9999 = true
  case neg => simp [hs, h1, h2, hskip]
  have b1 := inR_iff.1 h1
  have b2 := inR_iff.1 h2
  rw [w64_id (by omega) (by omega)]
  by_cases h3 : inR (goal + x.Goal) 0 9999 = true
  case neg => simp [hs, h1, h2, h3, hskip]
  by_cases h4 : inR x.Takings 0 9999 = true
  case neg => simp [hs, h1, h2, h3, h4, hskip]
  have b3 := inR_iff.1 h3
  have b4 := inR_iff.1 h4
  simp only [hs, h1, h2, h3, h4, Bool.not_true, Bool.false_eq_true, if_false]
  unfold law09_SharesGoal_j1
  rw [if_neg (by decide), w64_id (by omega) (by omega), Enough_eq (by omega), Enough_eq (by omega), Week_eq (by omega)]
  simp only [hs, h1, h3, h4, if_true, Option.bind_some, law09_isKnown, law09_isKnown_j1]
  have e : (setl s.Clauses s.Loan x.Takings 0).1.Split.Owner = ownT s x.Takings := rfl
  have fin : law09_SharesGoal_j2 20000 s goal x (enough s goal) ((setl s.Clauses s.Loan x.Takings 0).1.Split, 0) false = some true := by
    unfold law09_SharesGoal_j2 law09_SharesGoal_j3 law09_SharesGoal_j4
    rw [if_neg (by decide)]
    rcases enf_spec s goal 10000 0 with ⟨p1, p2, p3, p4, p5⟩ | ⟨p1, p2⟩
    · change (enough s goal).2 = 0 at p1
      change 0 ≤ (enough s goal).1 at p2
      change (enough s goal).1 < _ at p3
      change goal ≤ ownT s (enough s goal).1 at p4
      change ∀ u, 0 ≤ u → u < (enough s goal).1 → _ at p5
      rw [p1]
      have hin : inR (enough s goal).1 0 9999 = true := inR_iff.2 ⟨p2, by omega⟩
      simp only [bne_self_eq_false, Bool.false_eq_true, if_false, IsCents_eq, Option.bind_some, hin, Bool.not_true]
      rw [Week_eq (by omega)]
      simp only [hs, hin, if_true, Option.bind_some]
      have e2 : (setl s.Clauses s.Loan (enough s goal).1 0).1.Split.Owner = ownT s (enough s goal).1 := rfl
      rw [if_pos (by rfl), e2, if_pos (by simpa using p4)]
      by_cases hx : x.Takings ≥ (enough s goal).1
      · rw [if_pos (by simpa using hx), works_eq]
        rfl
      · rw [if_neg (by simpa using hx), e, if_pos (by simpa using p5 x.Takings b4.1 (by omega)), works_eq]
        rfl
    · change (enough s goal).2 = 3 at p1
      rw [p1, if_pos (by decide), e, if_pos (by simpa using p2 x.Takings b4.1 (by omega)), works_eq]
      rfl
  have k1 : (enough s goal).2 = 0 ∨ (enough s goal).2 = 3 := by
    rcases enf_spec s goal 10000 0 with h | h
    · exact .inl h.1
    · exact .inr h.1
  have k2 : ((enough s (goal + x.Goal)).2 = 0 ∧ (enough s goal).2 = 0 ∧ (enough s goal).1 ≤ (enough s (goal + x.Goal)).1) ∨ (enough s (goal + x.Goal)).2 = 3 := by
    rcases enf_spec s (goal + x.Goal) 10000 0 with ⟨q1, q2, q3, q4, q5⟩ | h
    · refine .inl ⟨q1, ?_⟩
      change 0 ≤ (enough s (goal + x.Goal)).1 at q2
      change (enough s (goal + x.Goal)).1 < _ at q3
      change _ ≤ ownT s (enough s (goal + x.Goal)).1 at q4
      rcases enf_spec s goal 10000 0 with ⟨p1, p2, p3, p4, p5⟩ | ⟨p1, p2⟩
      · refine ⟨p1, Classical.byContradiction fun hlt => ?_⟩
        have := p5 (enough s (goal + x.Goal)).1 q2 (by change _ < (enough s goal).1; omega)
        omega
      · have := p2 (enough s (goal + x.Goal)).1 q2 (by omega)
        omega
    · exact .inr h.1
  rcases k2 with ⟨k2, k3, k4⟩ | k2
  · rw [k2, k3]
    simp only [beq_self_eq_true, if_true, Bool.not_true, Bool.false_eq_true, if_false, bne_self_eq_false, Option.bind_some]
    rw [show decide ((enough s (goal + x.Goal)).1 < (enough s goal).1) = false by simpa using k4]
    exact fin
  · rcases k1 with k1 | k1
    · rw [k1, k2]
      simpa using fin
    · rw [k1, k2]
      simpa using fin
end Go.Law
