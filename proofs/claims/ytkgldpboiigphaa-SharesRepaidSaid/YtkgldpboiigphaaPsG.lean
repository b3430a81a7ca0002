/-
  Plain laws about the functions of shares: some weeks.
  Conditions: none.
-/
import Derived.Test.YtkgldpboiigphaaPsF
set_option linter.all false
namespace Go.Law
open Go Go.AM
/-- The splits of some weeks, and what is owed then. -/
def wks (l : List Clause) : List Int → Int → List Split × Int
  | [], owed => ([], owed)
  | t :: ts, owed => ((setl l owed t 0).1.Split :: (wks l ts (setl l owed t 0).1.owed).1, (wks l ts (setl l owed t 0).1.owed).2)
def isC (t : Int) : Bool := inR t 0 9999
theorem wks_len (l : List Clause) : ∀ (ts : List Int) (owed : Int), (wks l ts owed).1.length = ts.length
  | [], _ => rfl
  | t :: ts, owed => by simp [wks, wks_len l ts]
theorem wks_append (l : List Clause) : ∀ (a b : List Int) (owed : Int), wks l (a ++ b) owed = ((wks l a owed).1 ++ (wks l b (wks l a owed).2).1, (wks l b (wks l a owed).2).2)
  | [], b, owed => rfl
  | t :: a, b, owed => by simp only [List.cons_append, wks, wks_append l a b]
theorem wks_owed {l : List Clause} (hl : ∀ c ∈ l, okC c = true) : ∀ (ts : List Int) (owed : Int), 0 ≤ owed → ts.all isC = true → 0 ≤ (wks l ts owed).2 ∧ (wks l ts owed).2 ≤ owed
  | [], owed, h, _ => ⟨h, Int.le_refl _⟩
  | t :: ts, owed, h, hts => by
    simp only [List.all_cons, Bool.and_eq_true, isC, inR_iff] at hts
    have h1 := owed_le (gift := 0) hl h hts.1.1 (by omega)
    have h2 := wks_owed hl ts (setl l owed t 0).1.owed h1.1 hts.2
    simp only [wks]
    omega
def weeksOf (s : Share) (ts : List Int) : List Split × Int × Int := if ts.all isC then ((wks s.Clauses ts s.Loan).1, (wks s.Clauses ts s.Loan).2, 0) else ([], 0, 1)
theorem Weeks_eq {n : Nat} (hn : 100 ≤ n) (s : Share) (ts : List Int) (hb : ts.length < 1000) :
    shares_Weeks n s ts = some (if okS s then (if ts.length > 6 then ([], 0, 2) else weeksOf s ts) else ([], 0, 90)) := by
  unfold shares_Weeks
  rw [Check_eq (by omega)]
  simp only [Option.bind_some]
  by_cases hs : okS s = true
  case neg => simp [hs]
  simp only [hs, if_true, bne_self_eq_false, Bool.false_eq_true, if_false]
  by_cases h6 : ts.length > 6
  · rw [if_pos (by simp; omega), if_pos h6]
  rw [if_neg (by simp; omega), if_neg h6]
  obtain ⟨h5, hok, hlo⟩ := (okS_iff _).1 hs
  have key : ∀ (k pre : List Int) (m : Nat) (out : List Split) (owed : Int), ts = pre ++ k → k.length < m → out.length = pre.length → 0 ≤ owed ∧ owed ≤ 9999 →
      shares_Weeks_l1 n s ts m out owed (pre.length : Int) = some (if k.all isC then (out ++ (wks s.Clauses k owed).1, (wks s.Clauses k owed).2, 0) else ([], 0, 1)) := by
    intro k
    induction k with
    | nil =>
      intro pre m out owed he hm ho _
      obtain ⟨m, rfl⟩ : ∃ k, m = k + 1 := ⟨m - 1, by omega⟩
      simp only [shares_Weeks_l1, shares_Weeks_l1_b]
      rw [if_neg (by simp [he])]
      simp [shares_Weeks_j1, wks]
    | cons t k ih =>
      intro pre m out owed he hm ho how
      simp at hm
      have hl : ts.length = pre.length + (k.length + 1) := by simp [he]
      obtain ⟨m, rfl⟩ : ∃ k, m = k + 1 := ⟨m - 1, by omega⟩
      simp only [shares_Weeks_l1, shares_Weeks_l1_b]
      rw [if_pos (by simp; omega), show idx ts (pre.length : Int) = some t by rw [he, idx_mid]]
      simp only [Option.bind_some, isCents_eq, List.all_cons]
      cases ht : inR t 0 9999 with
      | false => simp [isC, ht]
      | true =>
        have htt := inR_iff.1 ht
        rw [if_neg (by decide), settle_eq hok (by omega) (by omega) how htt (by omega), w64_id (by omega) (by omega)]
        simp only [Option.bind_some]
        rw [app_ok (by simp; omega)]
        have h1 := owed_le (gift := 0) hok how.1 htt.1 (by omega)
        have h := ih (pre ++ [t]) m (out ++ [(setl s.Clauses owed t 0).1.Split]) (setl s.Clauses owed t 0).1.owed (by simp [he]) (by omega) (by simp [ho]) (by omega)
        have c1 : (((pre ++ [t]).length : Nat) : Int) = (pre.length : Int) + 1 := by simp
        rw [c1] at h
        simp only [Option.bind_some]
        rw [h]
        simp [isC, ht, wks]
  have h : shares_Weeks_l1 n s ts n [] s.Loan 0 = _ := key ts [] n [] s.Loan rfl (by omega) rfl hlo
  rw [h]
  rfl
theorem rWeeks_eq {n : Nat} (hn : 100 ≤ n) (s : Share) (ts : List Int) (hb : ts.length < 1000) :
    ref09_Weeks n s ts = some (if okS s then (if ts.length > 6 then ([], 0, 2) else weeksOf s ts) else ([], 0, 90)) := by
  unfold ref09_Weeks
  rw [rCheck_eq (by omega)]
  simp only [Option.bind_some]
  by_cases hs : okS s = true
  case neg => simp [hs]
  simp only [hs, if_true, bne_self_eq_false, Bool.false_eq_true, if_false]
  by_cases h6 : ts.length > 6
  · rw [if_pos (by simp; omega), if_pos h6]
  rw [if_neg (by simp; omega), if_neg h6]
  obtain ⟨h5, hok, hlo⟩ := (okS_iff _).1 hs
  have key : ∀ (k pre : List Int) (m : Nat) (out : List Split) (owed : Int), ts = pre ++ k → k.length < m → out.length = pre.length → 0 ≤ owed ∧ owed ≤ 9999 → k.all isC = true →
      ref09_Weeks_l1 n ts s m out (pre.length : Int) owed = some (out ++ (wks s.Clauses k owed).1, (wks s.Clauses k owed).2, 0) := by
    intro k
    induction k with
    | nil =>
      intro pre m out owed he hm ho _ _
      obtain ⟨m, rfl⟩ : ∃ k, m = k + 1 := ⟨m - 1, by omega⟩
      simp only [ref09_Weeks_l1, ref09_Weeks_l1_b]
      rw [if_neg (by simp [he])]
      simp [ref09_Weeks_j2, wks]
    | cons t k ih =>
      intro pre m out owed he hm ho how hall
      simp at hm
      simp only [List.all_cons, Bool.and_eq_true] at hall
      have hl : ts.length = pre.length + (k.length + 1) := by simp [he]
      obtain ⟨m, rfl⟩ : ∃ k, m = k + 1 := ⟨m - 1, by omega⟩
      have htt := inR_iff.1 hall.1
      simp only [ref09_Weeks_l1, ref09_Weeks_l1_b]
      rw [if_pos (by simp; omega), show idx ts (pre.length : Int) = some t by rw [he, idx_mid]]
      simp only [Option.bind_some]
      rw [Gone_eq (s := ⟨s.Clauses, owed⟩) hok (by dsimp only; omega) (by dsimp only; omega) how htt (by omega), w64_id (x := (pre.length : Int) + 1) (by omega) (by omega)]
      simp only [Option.bind_some]
      rw [app_ok (by simp; omega)]
      have hb := setl_wb (gift := 0) hok how.1 htt.1 (by omega)
      obtain ⟨q1, q2, q3, q4, q5, q6, q7, q8⟩ := hb
      have h := ih (pre ++ [t]) m (out ++ [(setl s.Clauses owed t 0).1.Split]) (setl s.Clauses owed t 0).1.owed (by simp [he]) (by omega) (by simp [ho]) (by omega) hall.2
      have c1 : (((pre ++ [t]).length : Nat) : Int) = (pre.length : Int) + 1 := by simp
      rw [c1] at h
      simp only [Option.bind_some]
      rw [w64_id (by omega) (by omega), show owed - (setl s.Clauses owed t 0).1.Split.Repaid = (setl s.Clauses owed t 0).1.owed by omega, h]
      simp [wks]
  have key2 : ∀ (k pre : List Int) (m : Nat), ts = pre ++ k → k.length < m → pre.all isC = true → ref09_Weeks_l2 n s ts m [] (pre.length : Int) = some (weeksOf s ts) := by
    intro k
    induction k with
    | nil =>
      intro pre m he hm hall
      obtain ⟨m, rfl⟩ : ∃ k, m = k + 1 := ⟨m - 1, by omega⟩
      simp only [ref09_Weeks_l2, ref09_Weeks_l2_b]
      rw [if_neg (by simp [he])]
      unfold ref09_Weeks_j1
      rw [Copy_eq s (by omega)]
      simp only [Option.bind_some]
      have hall : ts.all isC = true := by rw [he]; simpa using hall
      have h : ref09_Weeks_l1 n ts s n [] 0 s.Loan = _ := key ts [] n [] s.Loan rfl (by omega) rfl hlo hall
      rw [h]
      unfold weeksOf
      rw [if_pos hall]
      rfl
    | cons t k ih =>
      intro pre m he hm hall
      simp at hm
      have hl : ts.length = pre.length + (k.length + 1) := by simp [he]
      obtain ⟨m, rfl⟩ : ∃ k, m = k + 1 := ⟨m - 1, by omega⟩
      simp only [ref09_Weeks_l2, ref09_Weeks_l2_b]
      rw [if_pos (by simp; omega), show idx ts (pre.length : Int) = some t by rw [he, idx_mid]]
      simp only [Option.bind_some, IsCents_eq]
      cases ht : inR t 0 9999 with
      | false =>
        rw [if_pos (by decide)]
        unfold weeksOf
        rw [if_neg (by rw [he]; simp [isC, ht])]
      | true =>
        rw [if_neg (by decide), w64_id (by omega) (by omega)]
        have h := ih (pre ++ [t]) m (by simp [he]) (by omega) (by rw [List.all_append, hall]; simp [isC, ht])
        simpa using h
  have h : ref09_Weeks_l2 n s ts n [] 0 = _ := key2 ts [] n rfl (by omega) rfl
  exact h
theorem sameSplits_refl {n : Nat} (l : List Split) (hs : l.length < 1048576) (hn : l.length < n) : law09_sameSplits n l l = some true := by
  have key : ∀ (k pre : List Split) (m : Nat), l = pre ++ k → k.length < m → law09_sameSplits_l1 l l m (pre.length : Int) = some true := by
    intro k
    induction k with
    | nil =>
      intro pre m he hm
      obtain ⟨m, rfl⟩ : ∃ k, m = k + 1 := ⟨m - 1, by omega⟩
      simp [law09_sameSplits_l1, law09_sameSplits_l1_b, law09_sameSplits_j1, he]
    | cons x k ih =>
      intro pre m he hm
      simp at hm
      have hl : l.length = pre.length + (k.length + 1) := by simp [he]
      obtain ⟨m, rfl⟩ : ∃ k, m = k + 1 := ⟨m - 1, by omega⟩
      have h := ih (pre ++ [x]) m (by simp [he]) (by omega)
      simp only [law09_sameSplits_l1, law09_sameSplits_l1_b]
      rw [if_pos (by simp; omega), show idx l (pre.length : Int) = some x by rw [he, idx_mid], w64_id (by omega) (by omega)]
      simpa using h
  unfold law09_sameSplits
  simp only [bne_self_eq_false, Bool.false_eq_true, if_false]
  exact key l [] n rfl hn
theorem law_SharesWeeks (s : Share) (ts : List Int) : law09_SharesWeeks 20000 s ts = some true := by
  have hskip : law09_SharesWeeks_j1 20000 s ts true = some true := by
    unfold law09_SharesWeeks_j1
    rw [if_pos rfl, works_eq]
    rfl
  unfold law09_SharesWeeks
  rw [far_eq]
  simp only [Option.bind_some]
  by_cases hf : (s.Clauses.length : Int) > 40
  · rw [if_pos (by simpa using hf)]
    exact hskip
  rw [if_neg (by simpa using hf)]
  by_cases h40 : (ts.length : Int) > 40
  · rw [decide_eq_true h40]
    exact hskip
  rw [decide_eq_false h40]
  unfold law09_SharesWeeks_j1
  rw [if_neg (by decide), Copy_eq s (by omega)]
  simp only [Option.bind_some]
  rw [app_ok (by simp; omega), List.nil_append]
  simp only [Option.bind_some]
  rw [Weeks_eq (by omega) s ts (by omega), rWeeks_eq (by omega) s ts (by omega)]
  simp only [Option.bind_some]
  have hlen : (if okS s = true then if ts.length > 6 then ([], 0, 2) else weeksOf s ts else ([], 0, 90)).1.length ≤ 40 := by
    split
    · split
      · simp
      · unfold weeksOf
        split
        · rw [wks_len]; omega
        · simp
    · simp
  rw [sameSplits_refl _ (by omega) (by omega), same_refl s (by omega) (by omega), SameInts_refl ts (by omega) (by omega), works_eq]
  simp [law09_SharesWeeks_j2]
theorem wks_take (l : List Clause) (a b : List Int) (owed : Int) : ((wks l (a ++ b) owed).1.drop 0).take a.length = (wks l a owed).1 := by
  rw [wks_append]
  have := wks_len l a owed
  simp [← this]
theorem wks_drop (l : List Clause) (a b : List Int) (owed : Int) : (wks l (a ++ b) owed).1.drop a.length = (wks l b (wks l a owed).2).1 := by
  rw [wks_append]
  have := wks_len l a owed
  simp [← this]
theorem okS_loan {s : Share} {m : Int} (hs : okS s = true) (h : 0 ≤ m ∧ m ≤ 9999) : okS ⟨s.Clauses, m⟩ = true := by
  obtain ⟨h5, hok, hlo⟩ := (okS_iff _).1 hs
  exact (okS_iff _).2 ⟨h5, hok, h⟩
theorem later_j2 {s : Share} {a b : List Int} (hs : okS s = true) (hab : a.length + b.length ≤ 6) (ha : a.all isC = true) (hb : b.all isC = true) : law09_SharesLater_j2 20000 s a b (a ++ b) = some true := by
  obtain ⟨h5, hok, hlo⟩ := (okS_iff _).1 hs
  have hall : (a ++ b).all isC = true := by rw [List.all_append, ha, hb]; rfl
  have o1 := wks_owed hok a s.Loan hlo.1 ha
  have o2 := wks_owed hok b (wks s.Clauses a s.Loan).2 o1.1 hb
  unfold law09_SharesLater_j2
  rw [app_ok (by simp; omega), List.nil_append]
  simp only [Option.bind_some]
  rw [Weeks_eq (by omega) s a (by omega), hs]
  simp only [if_true, Option.bind_some]
  rw [if_neg (show ¬ a.length > 6 by omega)]
  unfold weeksOf
  rw [if_pos ha]
  dsimp only
  rw [if_neg (by decide), if_neg (by simp [wks_len]), if_neg (by simp; omega), show decide ((wks s.Clauses a s.Loan).2 > s.Loan) = false by simp; omega]
  unfold law09_SharesLater_j3
  rw [if_neg (by decide), Copy_eq s (by omega)]
  simp only [Option.bind_some]
  rw [app_ok (by simp; omega), List.nil_append]
  simp only [Option.bind_some]
  rw [Weeks_eq (by omega) _ b (by omega), okS_loan hs (by omega), Weeks_eq (by omega) s (a ++ b) (by simp; omega), hs]
  simp only [if_true, Option.bind_some]
  rw [if_neg (show ¬ b.length > 6 by omega), if_neg (show ¬ (a ++ b).length > 6 by simp; omega)]
  unfold weeksOf
  rw [if_pos hb, if_pos hall]
  dsimp only
  have e2 : (wks s.Clauses (a ++ b) s.Loan).2 = (wks s.Clauses b (wks s.Clauses a s.Loan).2).2 := by rw [wks_append]
  have hl := wks_len s.Clauses (a ++ b) s.Loan
  rw [List.length_append] at hl
  rw [if_neg (by decide), if_neg (by decide), if_neg (by simp [wks_len]), if_neg (by simp [wks_len]), if_neg (by simp [e2]), if_neg (by simp; omega), if_neg (by simp; omega)]
  have c1 : cut (wks s.Clauses (a ++ b) s.Loan).1 0 (a.length : Int) = some (wks s.Clauses a s.Loan).1 := by
    unfold cut
    rw [if_pos (by omega), ← wks_take s.Clauses a b s.Loan]
    simp
  have c2 : cut (wks s.Clauses (a ++ b) s.Loan).1 (a.length : Int) ((wks s.Clauses (a ++ b) s.Loan).1.length : Int) = some (wks s.Clauses b (wks s.Clauses a s.Loan).2).1 := by
    unfold cut
    rw [if_pos (by omega), ← wks_drop s.Clauses a b s.Loan, Int.toNat_natCast, Int.toNat_natCast]
    exact congrArg some (List.take_of_length_le (by rw [List.length_drop]; omega))
  rw [c1]
  simp only [Option.bind_some]
  rw [sameSplits_refl _ (by rw [wks_len]; omega) (by rw [wks_len]; omega)]
  simp only [Option.bind_some, Bool.not_true, Bool.false_eq_true, if_false]
  rw [c2]
  simp only [Option.bind_some]
  rw [sameSplits_refl _ (by rw [wks_len]; omega) (by rw [wks_len]; omega)]
  simp only [Option.bind_some, Bool.not_true]
  unfold law09_SharesLater_j4 law09_SharesLater_j5
  rw [if_neg (by decide), works_eq]
  cases hab' : a ++ b with
  | nil => rfl
  | cons t ts =>
    rw [hab'] at hall
    simp only [List.all_cons, Bool.and_eq_true] at hall
    have ht : inR t 0 9999 = true := hall.1
    rw [if_neg (by simp; omega)]
    have i1 : idx (t :: ts) 0 = some t := rfl
    have i2 : idx (wks s.Clauses (t :: ts) s.Loan).1 0 = some (setl s.Clauses s.Loan t 0).1.Split := rfl
    rw [i1]
    simp only [Option.bind_some]
    rw [Week_eq (by omega), hs, ht]
    simp only [if_true, Option.bind_some]
    rw [if_pos (by rfl), i2]
    simp
theorem law_SharesLater {X Y Z : Prop} (s : Share) (a b : List Int) (hs0 : X) (ha : a.length ≤ 140737488355328 ∧ Y) (hb : b.length ≤ 140737488355328 ∧ Z) : law09_SharesLater 20000 s a b = some true := by
  have hskip : law09_SharesLater_j1 20000 s a b true = some true := by
    unfold law09_SharesLater_j1
    rw [if_pos rfl, works_eq]
    rfl
  unfold law09_SharesLater
  rw [isShare_eq (by omega)]
  simp only [Option.bind_some]
  by_cases hs : okS s = true
  case neg => simp [hs, hskip]
  rw [hs, if_neg (by decide), w64_id (by omega) (by omega)]
  by_cases h6 : (a.length : Int) + (b.length : Int) > 6
  · rw [decide_eq_true h6]
    exact hskip
  rw [decide_eq_false h6]
  unfold law09_SharesLater_j1
  rw [if_neg (by decide), app_ok (by simp; omega), List.nil_append]
  simp only [Option.bind_some]
  rw [app_ok (by omega)]
  simp only [Option.bind_some]
  have key : ∀ (k pre : List Int) (m : Nat), a ++ b = pre ++ k → k.length < m → pre.all isC = true → law09_SharesLater_l1 20000 s a b (a ++ b) m (pre.length : Int) = some true := by
    intro k
    induction k with
    | nil =>
      intro pre m he hm hall
      obtain ⟨m, rfl⟩ : ∃ k, m = k + 1 := ⟨m - 1, by omega⟩
      simp only [law09_SharesLater_l1, law09_SharesLater_l1_b]
      rw [if_neg (by rw [he]; simp)]
      have hab : (a ++ b).all isC = true := by rw [he]; simpa using hall
      rw [List.all_append, Bool.and_eq_true] at hab
      exact later_j2 hs (by omega) hab.1 hab.2
    | cons t k ih =>
      intro pre m he hm hall
      simp at hm
      have hl : (a ++ b).length = pre.length + (k.length + 1) := by simp [he]
      rw [List.length_append] at hl
      obtain ⟨m, rfl⟩ : ∃ k, m = k + 1 := ⟨m - 1, by omega⟩
      simp only [law09_SharesLater_l1, law09_SharesLater_l1_b]
      rw [if_pos (by simp; omega), show idx (a ++ b) (pre.length : Int) = some t by rw [he, idx_mid]]
      simp only [Option.bind_some, IsCents_eq]
      cases ht : inR t 0 9999 with
      | false =>
        rw [if_pos (by decide), works_eq]
        rfl
      | true =>
        rw [if_neg (by decide), w64_id (by omega) (by omega)]
        have h := ih (pre ++ [t]) m (by simp [he]) (by omega) (by rw [List.all_append, hall]; simp [isC, ht])
        simpa using h
  exact key (a ++ b) [] 20000 rfl (by simp; omega) rfl
/-- What is owed after some weeks with the same takings. -/
def owedAt (s : Share) (t : Int) (k : Nat) : Int := (wks s.Clauses (List.replicate k t) s.Loan).2
theorem wks_rep (l : List Clause) (t : Int) : ∀ (k : Nat) (owed : Int), (wks l (List.replicate (k + 1) t) owed).2 = (setl l (wks l (List.replicate k t) owed).2 t 0).1.owed
  | 0, owed => rfl
  | k + 1, owed => by
    have h := wks_rep l t k (setl l owed t 0).1.owed
    have e1 : (wks l (List.replicate (k + 1 + 1) t) owed).2 = (wks l (List.replicate (k + 1) t) (setl l owed t 0).1.owed).2 := rfl
    have e2 : (wks l (List.replicate (k + 1) t) owed).2 = (wks l (List.replicate k t) (setl l owed t 0).1.owed).2 := rfl
    rw [e1, h, e2]
theorem owedAt_le {s : Share} {t : Int} (hs : okS s = true) (ht : 0 ≤ t ∧ t ≤ 9999) (k : Nat) : 0 ≤ owedAt s t k ∧ owedAt s t k ≤ s.Loan ∧ owedAt s t (k + 1) ≤ owedAt s t k := by
  obtain ⟨h5, hok, hlo⟩ := (okS_iff _).1 hs
  have h := wks_owed hok (List.replicate k t) s.Loan hlo.1 (by simp [isC, inR_iff]; omega)
  have h2 := owed_le (gift := 0) hok h.1 ht.1 (by omega)
  unfold owedAt
  rw [wks_rep]
  omega
theorem owedAt_mono {s : Share} {t : Int} (hs : okS s = true) (ht : 0 ≤ t ∧ t ≤ 9999) (k : Nat) : ∀ j, owedAt s t (k + j) ≤ owedAt s t k
  | 0 => Int.le_refl _
  | j + 1 => Int.le_trans (owedAt_le hs ht (k + j)).2.2 (owedAt_mono hs ht k j)
theorem repd_spec {s : Share} {t : Int} : ∀ (k j : Nat), 
    (∃ i : Nat, i < k ∧ repd s.Clauses t k (owedAt s t j) j = (((j + i : Nat) : Int), 0) ∧ owedAt s t (j + i) = 0 ∧ ∀ q, j ≤ q → q < j + i → owedAt s t q ≠ 0) ∨
    (repd s.Clauses t k (owedAt s t j) j = (0, 3) ∧ ∀ q, j ≤ q → q < j + k → owedAt s t q ≠ 0)
  | 0, j => .inr ⟨rfl, fun q h1 h2 => by omega⟩
  | k + 1, j => by
    unfold repd
    by_cases h : owedAt s t j = 0
    · rw [if_pos h]
      exact .inl ⟨0, by omega, rfl, h, fun q h1 h2 => by omega⟩
    · rw [if_neg h]
      have e : (setl s.Clauses (owedAt s t j) t 0).1.owed = owedAt s t (j + 1) := (wks_rep s.Clauses t j s.Loan).symm
      have c1 : (j : Int) + 1 = ((j + 1 : Nat) : Int) := by omega
      rw [e, c1]
      rcases repd_spec k (j + 1) with ⟨i, h1, h2, h3, h4⟩ | ⟨h1, h2⟩
      · refine .inl ⟨i + 1, by omega, ?_, by rw [show j + (i + 1) = j + 1 + i by omega]; exact h3, fun q q1 q2 => ?_⟩
        · rw [h2, show j + (i + 1) = j + 1 + i by omega]
        · by_cases hq : q = j
          · subst hq; exact h
          · exact h4 q (by omega) (by omega)
      · refine .inr ⟨h1, fun q q1 q2 => ?_⟩
        by_cases hq : q = j
        · subst hq; exact h
        · exact h2 q (by omega) (by omega)
theorem law_SharesRepaid (s : Share) (t : Int) : law09_SharesRepaid 20000 s t = some true := by
  have hskip : law09_SharesRepaid_j1 20000 s t true = some true := by
    unfold law09_SharesRepaid_j1
    rw [if_pos rfl, works_eq]
    rfl
  unfold law09_SharesRepaid
  rw [isShare_eq (by omega)]
  simp only [Option.bind_some, IsCents_eq]
  by_cases hs : okS s = true
  case neg => simp [hs, hskip]
  by_cases h1 : inR t 0 9999 = true
  case neg => simp [hs, h1, hskip]
  have b1 := inR_iff.1 h1
  obtain ⟨h5, hok, hlo⟩ := (okS_iff _).1 hs
  simp only [hs, h1, Bool.not_true, Bool.false_eq_true, if_false]
  have o0 : owedAt s t 0 = s.Loan := rfl
  -- the loop
  have loop : ∀ (r : Int × Int), (∀ i : Nat, i < 6 → (r.2 = 0 ∧ (owedAt s t (i + 1) = 0 ↔ r.1 ≤ (i : Int) + 1)) ∨ (r.2 = 3 ∧ owedAt s t (i + 1) ≠ 0)) → law09_SharesRepaid_j2 20000 s t r false = some true := by
    intro r hr
    unfold law09_SharesRepaid_j2
    rw [if_neg (by decide)]
    have key : ∀ (j i m : Nat), i + j = 6 → j < m → law09_SharesRepaid_l1 20000 s t r m (List.replicate i t) (i : Int) = some true := by
      intro j
      induction j with
      | zero =>
        intro i m hi hm
        obtain ⟨m, rfl⟩ : ∃ k, m = k + 1 := ⟨m - 1, by omega⟩
        simp only [law09_SharesRepaid_l1, law09_SharesRepaid_l1_b]
        rw [if_neg (by simp; omega)]
        unfold law09_SharesRepaid_j3
        rw [works_eq]
        rfl
      | succ j ih =>
        intro i m hi hm
        obtain ⟨m, rfl⟩ : ∃ k, m = k + 1 := ⟨m - 1, by omega⟩
        simp only [law09_SharesRepaid_l1, law09_SharesRepaid_l1_b]
        have e1 : List.replicate i t ++ [t] = List.replicate (i + 1) t := List.replicate_succ'.symm
        rw [if_pos (by simp; omega), app_ok (by simp; omega), e1]
        simp only [Option.bind_some]
        rw [app_ok (by simp; omega), List.nil_append]
        simp only [Option.bind_some]
        rw [Weeks_eq (by omega) s _ (by simp; omega), hs]
        simp only [if_true, Option.bind_some]
        rw [if_neg (show ¬ (List.replicate (i + 1) t).length > 6 by simp; omega)]
        have hall : (List.replicate (i + 1) t).all isC = true := by simp [isC, h1]
        unfold weeksOf
        rw [if_pos hall]
        dsimp only
        have e2 : (wks s.Clauses (List.replicate (i + 1) t) s.Loan).2 = owedAt s t (i + 1) := rfl
        rw [if_neg (by decide), e2, w64_id (x := (i : Int) + 1) (by omega) (by omega)]
        have h := ih (i + 1) m (by omega) (by omega)
        have c1 : ((i + 1 : Nat) : Int) = (i : Int) + 1 := by omega
        rw [c1] at h
        rcases hr i (by omega) with ⟨r1, r2⟩ | ⟨r1, r2⟩
        · rw [r1, if_pos (by rfl)]
          have e3 : (owedAt s t (i + 1) == 0) = decide (r.1 ≤ (i : Int) + 1) := by
            by_cases hq : owedAt s t (i + 1) = 0
            · rw [decide_eq_true (r2.1 hq)]; simpa using hq
            · rw [decide_eq_false (fun hc => hq (r2.2 hc))]; simpa using hq
          rw [e3]
          unfold law09_SharesRepaid_j4
          rw [if_neg (by simp), w64_id (by omega) (by omega)]
          exact h
        · rw [r1, if_neg (by decide)]
          have e3 : (owedAt s t (i + 1) == 0) = false := by simpa using r2
          rw [e3]
          unfold law09_SharesRepaid_j4
          rw [if_neg (by simp), w64_id (by omega) (by omega)]
          exact h
    exact key 6 0 20000 (by omega) (by omega)
  unfold law09_SharesRepaid_j1
  rw [if_neg (by decide), Repaid_eq (by omega)]
  simp only [hs, h1, if_true, Option.bind_some, law09_isKnown, law09_isKnown_j1]
  have hsp := repd_spec (s := s) (t := t) 1001 0
  have e : repd s.Clauses t 1001 (owedAt s t 0) ((0 : Nat) : Int) = repOf s t := rfl
  rw [e] at hsp
  rcases hsp with ⟨i, q1, q2, q3, q4⟩ | ⟨q2, q4⟩
  · rw [Nat.zero_add] at q2 q3 q4
    rw [q2]
    simp only [beq_self_eq_true, if_true, Option.bind_some, Bool.not_true, Bool.false_eq_true, if_false]
    rw [if_neg (by simp <;> omega), if_neg (by simp <;> omega)]
    have e3 : (((i : Nat) : Int) == 0) = (s.Loan == 0) := by
      by_cases hi : i = 0
      · subst hi
        rw [o0] at q3
        simp [q3]
      · have := q4 0 (by omega) (by omega)
        rw [o0] at this
        have h2 : ¬ ((i : Nat) : Int) = 0 := by omega
        rw [beq_eq_false_iff_ne.2 h2, beq_eq_false_iff_ne.2 this]
    rw [e3]
    simp only [beq_self_eq_true, Bool.not_true]
    refine loop _ fun j hj => .inl ⟨rfl, ?_⟩
    dsimp only
    constructor
    · intro h0
      refine Classical.byContradiction fun hlt => ?_
      exact q4 (j + 1) (by omega) (by omega) h0
    · intro hle
      have hm := owedAt_mono hs b1 i (j + 1 - i)
      rw [show i + (j + 1 - i) = j + 1 by omega, q3] at hm
      have := (owedAt_le hs b1 (j + 1)).1
      omega
  · rw [q2]
    simp only [show ((3 : Int) == 0) = false from rfl, Bool.false_eq_true, if_false, beq_self_eq_true, Option.bind_some, Bool.not_true]
    exact loop _ fun j hj => .inr ⟨rfl, q4 (j + 1) (by omega) (by omega)⟩
end Go.Law
