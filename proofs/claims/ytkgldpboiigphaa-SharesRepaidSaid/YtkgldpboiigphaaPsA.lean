/-
  Plain laws about the functions of shares: what the models compute.
  Conditions: none.
-/
import Derived.Test.YtkgldpboiigphaaPlA
import Derived.Test.YtkgldpboiigphaaMd
set_option linter.all false
namespace Go.Law
open Go Go.AM
set_option linter.unusedVariables false
set_option linter.unusedSimpArgs false

/-! ### Validity -/
def okC (c : Clause) : Bool := inR c.Kind 1 5 && inR c.Cents 0 9999 && inR c.Part 0 100 && inR c.More 0 100
def okS (s : Share) : Bool := decide (s.Clauses.length ≤ 5) && s.Clauses.all okC && inR s.Loan 0 9999
theorem within_eq (a b c : Int) : shares_within a b c = some (inR a b c) := by
  unfold shares_within shares_within_j1 inR
  by_cases h : b ≤ a <;> simp [h]
theorem isCents_eq (a : Int) : shares_isCents a = some (inR a 0 9999) := by simp [shares_isCents, within_eq]
theorem Within_eq (a b c : Int) : ref01_Within a b c = some (inR a b c) := by
  unfold ref01_Within ref01_Within_j1 inR
  by_cases h : b ≤ a <;> simp [h]
theorem rwithin_eq (a b c : Int) : ref09_within a b c = some (inR a b c) := by simp [ref09_within, Within_eq]
theorem IsCents_eq (a : Int) : ref09_IsCents a = some (inR a 0 9999) := by simp [ref09_IsCents, rwithin_eq]
theorem Check_c1_eq (c : Clause) : shares_Check_c1 c = some (!okC c) := by
  unfold shares_Check_c1 shares_Check_c1_j1 okC
  simp only [within_eq, isCents_eq, Option.bind_some]
  cases inR c.Kind 1 5 <;> cases inR c.Cents 0 9999 <;> cases inR c.Part 0 100 <;> cases inR c.More 0 100 <;> rfl
theorem IndexFunc_eq (bad : Clause → Bool) (f : Clause → Option Bool) (hf : ∀ c, f c = some (bad c)) :
    ∀ (l pre : List Clause) (m : Nat), (pre ++ l).length < 1048576 → l.length < m → ∃ r, slices_IndexFunc_apiClause_l1 (pre ++ l) f m (pre.length : Int) = some r ∧ decide (r ≥ 0) = l.any bad := by
  intro l
  induction l with
  | nil =>
    intro pre m hs hm
    obtain ⟨m, rfl⟩ : ∃ k, m = k + 1 := ⟨m - 1, by omega⟩
    refine ⟨-1, ?_, by simp⟩
    simp [slices_IndexFunc_apiClause_l1, slices_IndexFunc_apiClause_l1_b, slices_IndexFunc_apiClause_j1]
  | cons c l ih =>
    intro pre m hs hm
    simp at hs hm
    obtain ⟨m, rfl⟩ : ∃ k, m = k + 1 := ⟨m - 1, by omega⟩
    simp only [slices_IndexFunc_apiClause_l1, slices_IndexFunc_apiClause_l1_b]
    rw [if_pos (by simp; omega)]
    simp only [idx_mid, Option.bind_some, hf]
    cases hb : bad c with
    | true => exact ⟨pre.length, by simp, by simp [hb]⟩
    | false =>
      obtain ⟨r, h1, h2⟩ := ih (pre ++ [c]) m (by simp; omega) (by omega)
      refine ⟨r, ?_, by simp [hb, h2]⟩
      rw [w64_id (by omega) (by omega)]
      simpa using h1
theorem Check_eq {n : Nat} (hn : 6 ≤ n) (s : Share) : shares_Check n s = some (if okS s then 0 else 90) := by
  unfold shares_Check shares_Check_j1 okS
  by_cases h5 : s.Clauses.length ≤ 5
  · rw [if_neg (by simp; omega)]
    obtain ⟨r, h1, h2⟩ := IndexFunc_eq (fun c => !okC c) shares_Check_c1 Check_c1_eq s.Clauses [] n (by simp; omega) (by omega)
    have h1 : slices_IndexFunc_apiClause n s.Clauses shares_Check_c1 = some r := by simpa [slices_IndexFunc_apiClause] using h1
    simp only [slices_ContainsFunc_apiClause, h1, Option.bind_some, h2, isCents_eq]
    have e : s.Clauses.any (fun c => !okC c) = !s.Clauses.all okC := by rw [List.not_all_eq_any_not]
    rw [e]
    cases s.Clauses.all okC <;> cases inR s.Loan 0 9999 <;> simp [h5]
  · rw [if_pos (by simp; omega)]
    simp [h5]
theorem Check_l1_eq (s : Share) :
    ∀ (l pre : List Clause) (m : Nat), s.Clauses = pre ++ l → s.Clauses.length < 1048576 → l.length < m → ref09_Check_l1 s m (pre.length : Int) = some (if l.all okC then 0 else 90) := by
  intro l
  induction l with
  | nil =>
    intro pre m he hs hm
    obtain ⟨m, rfl⟩ : ∃ k, m = k + 1 := ⟨m - 1, by omega⟩
    simp [ref09_Check_l1, ref09_Check_l1_b, ref09_Check_j2, he]
  | cons c l ih =>
    intro pre m he hs hm
    simp at hm
    have hl : s.Clauses.length = pre.length + l.length + 1 := by simp [he]; omega
    obtain ⟨m, rfl⟩ : ∃ k, m = k + 1 := ⟨m - 1, by omega⟩
    have h1 := ih (pre ++ [c]) m (by simp [he]) hs (by omega)
    have h1 : ref09_Check_l1 s m ((pre.length : Int) + 1) = some (if l.all okC then 0 else 90) := by simpa using h1
    simp only [ref09_Check_l1, ref09_Check_l1_b]
    rw [if_pos (by simp; omega), show idx s.Clauses (pre.length : Int) = some c by rw [he, idx_mid]]
    simp only [Option.bind_some, rwithin_eq, IsCents_eq, ref09_Check_j3, h1, okC, List.all_cons, w64_id (show -9223372036854775808 ≤ (pre.length : Int) + 1 by omega) (show (pre.length : Int) + 1 < 9223372036854775808 by omega)]
    rcases Bool.eq_false_or_eq_true (inR c.Kind 1 5) with q1 | q1 <;> rcases Bool.eq_false_or_eq_true (inR c.Cents 0 9999) with q2 | q2 <;>
      rcases Bool.eq_false_or_eq_true (inR c.Part 0 100) with q3 | q3 <;> rcases Bool.eq_false_or_eq_true (inR c.More 0 100) with q4 | q4 <;> simp [q1, q2, q3, q4]
theorem rCheck_eq {n : Nat} (hn : 6 ≤ n) (s : Share) : ref09_Check n s = some (if okS s then 0 else 90) := by
  unfold ref09_Check ref09_Check_j1 okS
  by_cases h5 : s.Clauses.length ≤ 5
  · rw [if_neg (by simp; omega)]
    have h1 := Check_l1_eq s s.Clauses [] n rfl (by omega) (by omega)
    have h1 : ref09_Check_l1 s n 0 = some (if s.Clauses.all okC then 0 else 90) := h1
    simp only [IsCents_eq, Option.bind_some, h1]
    cases s.Clauses.all okC <;> cases inR s.Loan 0 9999 <;> simp [h5]
  · rw [if_pos (by simp; omega)]
    simp [h5]
theorem ask_eq {n : Nat} (hn : 6 ≤ n) (s : Share) (b : Bool) : shares_ask n s b = some (if okS s then (if b then 0 else 1) else 90) := by
  unfold shares_ask
  rw [Check_eq hn]
  cases okS s <;> cases b <;> rfl
theorem rask_eq {n : Nat} (hn : 6 ≤ n) (s : Share) (b : Bool) : ref09_ask n s b = some (if okS s then (if b then 0 else 1) else 90) := by
  unfold ref09_ask
  rw [rCheck_eq hn]
  cases okS s <;> cases b <;> rfl

/-! ### A week -/
def given (c : Clause) (rest got owed : Int) : Int :=
  if c.Kind = 1 then min rest c.Cents
  else if c.Kind = 2 then min (min rest c.Cents) owed
  else if c.Kind = 3 then c.Part * rest / 500 * 5
  else if c.Kind = 4 then (c.Part * min rest c.Cents + c.More * (rest - min rest c.Cents)) / 500 * 5
  else min rest (max 0 (c.Cents - got))
def stepW (c : Clause) (w : Week_) : Week_ :=
  let n := given c w.rest w.Split.Owner w.owed
  if c.Kind = 1 then ⟨⟨w.Split.Operator + n, w.Split.Owner, w.Split.Repaid⟩, w.rest - n, w.owed⟩
  else if c.Kind = 2 then ⟨⟨w.Split.Operator + n, w.Split.Owner, w.Split.Repaid + n⟩, w.rest - n, w.owed - n⟩
  else ⟨⟨w.Split.Operator, w.Split.Owner + n, w.Split.Repaid⟩, w.rest - n, w.owed⟩
def runW : List Clause → Week_ → Week_ × List Int
  | [], w => (w, [])
  | c :: l, w => ((runW l (stepW c w)).1, given c w.rest w.Split.Owner w.owed :: (runW l (stepW c w)).2)
def finW (w : Week_) : Week_ := ⟨⟨w.Split.Operator + w.rest, w.Split.Owner, w.Split.Repaid⟩, 0, w.owed⟩
def startW (owed t gift : Int) : Week_ := ⟨⟨0, min gift t, 0⟩, t - min gift t, owed⟩
def setl (l : List Clause) (owed t gift : Int) : Week_ × List Int := (finW (runW l (startW owed t gift)).1, (runW l (startW owed t gift)).2)
/-- What is so of a week of takings t and a loan. -/
structure WB (t loan : Int) (w : Week_) : Prop where
  op : 0 ≤ w.Split.Operator
  ow : 0 ≤ w.Split.Owner
  rp : 0 ≤ w.Split.Repaid
  rest : 0 ≤ w.rest
  owed : 0 ≤ w.owed
  sum : w.Split.Operator + w.Split.Owner + w.rest = t
  rep : w.Split.Repaid ≤ w.Split.Operator
  loan : w.Split.Repaid + w.owed = loan
theorem okC_iff (c : Clause) : okC c = true ↔ (1 ≤ c.Kind ∧ c.Kind ≤ 5) ∧ (0 ≤ c.Cents ∧ c.Cents ≤ 9999) ∧ (0 ≤ c.Part ∧ c.Part ≤ 100) ∧ (0 ≤ c.More ∧ c.More ≤ 100) := by
  simp [okC, inR_iff, and_assoc]
theorem part_le {p x : Int} (h0 : 0 ≤ p) (h1 : p ≤ 100) (hx : 0 ≤ x) : 0 ≤ p * x ∧ p * x ≤ 100 * x :=
  ⟨Int.mul_nonneg h0 hx, Int.mul_le_mul_of_nonneg_right h1 hx⟩
theorem given_le {c : Clause} {rest got owed : Int} (hc : okC c = true) (hr : 0 ≤ rest) (ho : 0 ≤ owed) : 0 ≤ given c rest got owed ∧ given c rest got owed ≤ rest ∧ (c.Kind = 2 → given c rest got owed ≤ owed) := by
  obtain ⟨hk, hce, hp, hm⟩ := (okC_iff c).1 hc
  unfold given
  by_cases h1 : c.Kind = 1
  · rw [if_pos h1]; omega
  rw [if_neg h1]
  by_cases h2 : c.Kind = 2
  · rw [if_pos h2]; omega
  rw [if_neg h2]
  by_cases h3 : c.Kind = 3
  · rw [if_pos h3]
    have := part_le hp.1 hp.2 hr
    omega
  rw [if_neg h3]
  by_cases h4 : c.Kind = 4
  · rw [if_pos h4]
    have := part_le hp.1 hp.2 (show 0 ≤ min rest c.Cents by omega)
    have := part_le hm.1 hm.2 (show 0 ≤ rest - min rest c.Cents by omega)
    omega
  rw [if_neg h4]
  omega
theorem stepW_wb {t loan : Int} {c : Clause} {w : Week_} (hc : okC c = true) (hw : WB t loan w) : WB t loan (stepW c w) := by
  obtain ⟨h1, h2, h3, h4, h5, h6, h7, h8⟩ := hw
  obtain ⟨g1, g2, g3⟩ := given_le (got := w.Split.Owner) hc h4 h5
  unfold stepW
  dsimp only
  generalize given c w.rest w.Split.Owner w.owed = n at g1 g2 g3
  by_cases k1 : c.Kind = 1
  · rw [if_pos k1]; constructor <;> dsimp only <;> omega
  rw [if_neg k1]
  by_cases k2 : c.Kind = 2
  · rw [if_pos k2]; have := g3 k2; constructor <;> dsimp only <;> omega
  rw [if_neg k2]
  constructor <;> dsimp only <;> omega
theorem runW_wb {t loan : Int} : ∀ {l : List Clause} {w : Week_}, (∀ c ∈ l, okC c = true) → WB t loan w → WB t loan (runW l w).1
  | [], _, _, hw => hw
  | c :: l, w, hc, hw => runW_wb (l := l) (fun d hd => hc d (List.mem_cons_of_mem _ hd)) (stepW_wb (hc c (List.mem_cons_self ..)) hw)
theorem startW_wb {owed t gift : Int} (ho : 0 ≤ owed) (ht : 0 ≤ t) (hg : 0 ≤ gift) : WB t owed (startW owed t gift) := by
  unfold startW
  constructor <;> dsimp only <;> omega
theorem finW_wb {t loan : Int} {w : Week_} (hw : WB t loan w) : WB t loan (finW w) := by
  obtain ⟨h1, h2, h3, h4, h5, h6, h7, h8⟩ := hw
  unfold finW
  constructor <;> dsimp only <;> omega
theorem setl_wb {l : List Clause} {owed t gift : Int} (hl : ∀ c ∈ l, okC c = true) (ho : 0 ≤ owed) (ht : 0 ≤ t) (hg : 0 ≤ gift) : WB t owed (setl l owed t gift).1 :=
  finW_wb (runW_wb hl (startW_wb ho ht hg))
theorem runW_len : ∀ (l : List Clause) (w : Week_), (runW l w).2.length = l.length
  | [], _ => rfl
  | c :: l, w => by simp [runW, runW_len l]
/-- What a clause does, by the code. -/
theorem five_eq {x : Int} (h0 : 0 ≤ x) (h1 : x ≤ 999900) : shares_five x = some (x / 500 * 5) := by
  unfold shares_five
  rw [quo_nn h0 (by omega) (by omega)]
  simp only [Option.bind_some]
  rw [w64_id (by omega) (by omega)]
theorem settle_l1_eq {t loan : Int} (ht : t ≤ 9999) (hlo : loan ≤ 9999) :
    ∀ (l pre : List Clause) (m : Nat) (gave : List Int) (w : Week_), (∀ c ∈ l, okC c = true) → WB t loan w → (pre ++ l).length < 1000 → l.length < m → gave.length = pre.length →
      shares_settle_l1 (pre ++ l) m gave (pre.length : Int) w.Split.Operator w.Split.Owner w.Split.Repaid w.rest w.owed = some (finW (runW l w).1, gave ++ (runW l w).2) := by
  intro l
  induction l with
  | nil =>
    intro pre m gave w hok hw hs hm hg
    obtain ⟨m, rfl⟩ : ∃ k, m = k + 1 := ⟨m - 1, by omega⟩
    obtain ⟨h1, h2, h3, h4, h5, h6, h7, h8⟩ := hw
    simp only [shares_settle_l1, shares_settle_l1_b]
    rw [if_neg (by simp)]
    simp only [shares_settle_j1, shares_week_operator, Option.bind_some, runW, finW, List.append_nil]
    rw [w64_id (by omega) (by omega), Int.sub_self]
    rfl
  | cons c l ih =>
    intro pre m gave w hok hw hs hm hg
    simp at hm hs
    obtain ⟨m, rfl⟩ : ∃ k, m = k + 1 := ⟨m - 1, by omega⟩
    have hc := hok c (List.mem_cons_self ..)
    have hw' := stepW_wb hc hw
    have h := ih (pre ++ [c]) m (gave ++ [given c w.rest w.Split.Owner w.owed]) (stepW c w) (fun d hd => hok d (List.mem_cons_of_mem _ hd)) hw' (by simp; omega) (by omega) (by simp [hg])
    obtain ⟨g1, g2, g3⟩ := given_le (got := w.Split.Owner) hc hw.rest hw.owed
    obtain ⟨hk, hce, hp, hmo⟩ := (okC_iff c).1 hc
    obtain ⟨h1, h2, h3, h4, h5, h6, h7, h8⟩ := hw
    simp only [List.append_assoc, List.singleton_append, List.length_append, List.length_singleton] at h
    simp only [shares_settle_l1, shares_settle_l1_b]
    rw [if_pos (by simp; omega)]
    simp only [idx_mid, Option.bind_some]
    rw [w64_id (by omega) (by omega)]
    have ha : ∀ x : Int, app gave [x] = some (gave ++ [x]) := fun x => app_ok (by simp; omega)
    have hrun : (runW (c :: l) w) = ((runW l (stepW c w)).1, given c w.rest w.Split.Owner w.owed :: (runW l (stepW c w)).2) := rfl
    rw [hrun]
    have hr : w.rest ≤ 9999 := by omega
    generalize hge : given c w.rest w.Split.Owner w.owed = n at g1 g2 g3 h ⊢
    have hst : stepW c w = if c.Kind = 1 then ⟨⟨w.Split.Operator + n, w.Split.Owner, w.Split.Repaid⟩, w.rest - n, w.owed⟩
  else if c.Kind = 2 then ⟨⟨w.Split.Operator + n, w.Split.Owner, w.Split.Repaid + n⟩, w.rest - n, w.owed - n⟩
  else ⟨⟨w.Split.Operator, w.Split.Owner + n, w.Split.Repaid⟩, w.rest - n, w.owed⟩ := by unfold stepW; rw [hge]
    have c1 : ((pre.length + 1 : Nat) : Int) = (pre.length : Int) + 1 := by omega
    rw [c1] at h
    simp only at h ⊢
    rw [← h]
    rw [hst]
    unfold given at hge
    by_cases k1 : c.Kind = 1
    · rw [if_pos (by simp [k1]), if_pos k1]
      rw [if_pos k1] at hge
      simp only [shares_rules_c1, shares_week_operator, Option.bind_some, hge, ha]
      rw [w64_id (by omega) (by omega), w64_id (by omega) (by omega)]
    rw [if_neg (by simp [k1]), if_neg k1]
    rw [if_neg k1] at hge
    by_cases k2 : c.Kind = 2
    · rw [if_pos (by simp [k2]), if_pos k2]
      rw [if_pos k2] at hge
      have g3 := g3 k2
      simp only [shares_week_repay, shares_week_operator, Option.bind_some, hge, ha]
      rw [w64_id (x := w.Split.Operator + n) (by omega) (by omega), w64_id (x := w.rest - n) (by omega) (by omega), w64_id (x := w.Split.Repaid + n) (by omega) (by omega), w64_id (x := w.owed - n) (by omega) (by omega)]
    rw [if_neg (by simp [k2]), if_neg k2]
    rw [if_neg k2] at hge
    by_cases k3 : c.Kind = 3
    · rw [if_pos (by simp [k3])]
      rw [if_pos k3] at hge
      have := part_le hp.1 hp.2 h4
      simp only [shares_rules_c2, shares_week_owner]
      rw [w64_id (by omega) (by omega), five_eq (by omega) (by omega)]
      simp only [Option.bind_some, hge, ha]
      rw [w64_id (by omega) (by omega), w64_id (by omega) (by omega)]
    rw [if_neg (by simp [k3])]
    rw [if_neg k3] at hge
    by_cases k4 : c.Kind = 4
    · rw [if_pos (by simp [k4])]
      rw [if_pos k4] at hge
      have := part_le hp.1 hp.2 (show 0 ≤ min w.rest c.Cents by omega)
      have := part_le hmo.1 hmo.2 (show 0 ≤ w.rest - min w.rest c.Cents by omega)
      simp only [shares_rules_c3, shares_week_owner]
      rw [w64_id (x := w.rest - min w.rest c.Cents) (by omega) (by omega), w64_id (x := c.Part * min w.rest c.Cents) (by omega) (by omega), w64_id (x := c.More * (w.rest - min w.rest c.Cents)) (by omega) (by omega), w64_id (by omega) (by omega), five_eq (by omega) (by omega)]
      simp only [Option.bind_some, hge, ha]
      rw [w64_id (by omega) (by omega), w64_id (by omega) (by omega)]
    rw [if_neg (by simp [k4])]
    rw [if_neg k4] at hge
    · rw [if_pos (by simp; omega)]
      simp only [shares_rules_c4, shares_week_owner]
      rw [w64_id (x := c.Cents - w.Split.Owner) (by omega) (by omega)]
      simp only [Option.bind_some, hge, ha]
      rw [w64_id (by omega) (by omega), w64_id (by omega) (by omega)]
theorem settle_eq {n : Nat} {l : List Clause} {owed t gift : Int} (hl : ∀ c ∈ l, okC c = true) (hs : l.length < 1000) (hn : l.length < n) (ho : 0 ≤ owed ∧ owed ≤ 9999) (ht : 0 ≤ t ∧ t ≤ 9999) (hg : 0 ≤ gift) :
    shares_settle n l owed t gift = some (setl l owed t gift) := by
  have h := settle_l1_eq (t := t) (loan := owed) ht.2 ho.2 l [] n [] (startW owed t gift) hl (startW_wb ho.1 ht.1 hg) (by simpa using hs) hn rfl
  unfold shares_settle shares_week_owner
  simp only [Option.bind_some]
  rw [Int.zero_add, w64_id (by omega) (by omega), w64_id (by omega) (by omega)]
  exact h
theorem owners_eq {n : Nat} {l : List Clause} {owed t : Int} (hl : ∀ c ∈ l, okC c = true) (hs : l.length < 1000) (hn : l.length < n) (ho : 0 ≤ owed ∧ owed ≤ 9999) (ht : 0 ≤ t ∧ t ≤ 9999) :
    shares_owners n l owed t = some (setl l owed t 0).1.Split.Owner := by
  unfold shares_owners
  rw [settle_eq hl hs hn ho ht (by omega)]
  rfl

/-! ### A week of the reference -/
theorem Given_eq {c : Clause} {rest got owed : Int} (hc : okC c = true) (hr : 0 ≤ rest ∧ rest ≤ 9999) (hg : 0 ≤ got ∧ got ≤ 9999) : ref09_Given c rest got owed = some (given c rest got owed) := by
  obtain ⟨hk, hce, hp, hm⟩ := (okC_iff c).1 hc
  unfold ref09_Given given
  by_cases k1 : c.Kind = 1
  · simp [k1]
  rw [if_neg (by simp [k1]), if_neg k1]
  by_cases k2 : c.Kind = 2
  · simp [k2]
  rw [if_neg (by simp [k2]), if_neg k2]
  by_cases k3 : c.Kind = 3
  · rw [if_pos (by simp [k3]), if_pos k3]
    have := part_le hp.1 hp.2 hr.1
    rw [w64_id (by omega) (by omega), quo_nn (by omega) (by omega) (by omega)]
    simp only [Option.bind_some]
    rw [w64_id (by omega) (by omega)]
  rw [if_neg (by simp [k3]), if_neg k3]
  by_cases k4 : c.Kind = 4
  · rw [if_pos (by simp [k4]), if_pos k4]
    have := part_le hp.1 hp.2 (show 0 ≤ min rest c.Cents by omega)
    have := part_le hm.1 hm.2 (show 0 ≤ rest - min rest c.Cents by omega)
    rw [w64_id (x := rest - min rest c.Cents) (by omega) (by omega), w64_id (x := c.Part * min rest c.Cents) (by omega) (by omega), w64_id (x := c.More * (rest - min rest c.Cents)) (by omega) (by omega), w64_id (by omega) (by omega), quo_nn (by omega) (by omega) (by omega)]
    simp only [Option.bind_some]
    rw [w64_id (by omega) (by omega)]
  rw [if_neg (by simp [k4]), if_neg k4, w64_id (by omega) (by omega)]
theorem Gone_l1_eq {t : Int} (s : Share) (ht : t ≤ 9999) (hlo : s.Loan ≤ 9999) :
    ∀ (l pre : List Clause) (m : Nat) (gave : List Int) (w : Week_), s.Clauses = pre ++ l → (∀ c ∈ l, okC c = true) → WB t s.Loan w → s.Clauses.length < 1000 → l.length < m → gave.length = pre.length →
      ref09_Gone_l1 s t m w.rest gave (pre.length : Int) w.Split.Owner w.Split.Repaid = some (gave ++ (runW l w).2, (finW (runW l w).1).Split) := by
  intro l
  induction l with
  | nil =>
    intro pre m gave w he hok hw hs hm hg
    obtain ⟨m, rfl⟩ : ∃ k, m = k + 1 := ⟨m - 1, by omega⟩
    obtain ⟨h1, h2, h3, h4, h5, h6, h7, h8⟩ := hw
    simp only [ref09_Gone_l1, ref09_Gone_l1_b]
    rw [if_neg (by simp [he])]
    simp only [ref09_Gone_j1, runW, finW, List.append_nil]
    rw [w64_id (by omega) (by omega)]
    simp; omega
  | cons c l ih =>
    intro pre m gave w he hok hw hs hm hg
    simp at hm
    have hlen : s.Clauses.length = pre.length + (l.length + 1) := by simp [he]
    obtain ⟨m, rfl⟩ : ∃ k, m = k + 1 := ⟨m - 1, by omega⟩
    have hc := hok c (List.mem_cons_self ..)
    have hw' := stepW_wb hc hw
    have h := ih (pre ++ [c]) m (gave ++ [given c w.rest w.Split.Owner w.owed]) (stepW c w) (by simp [he]) (fun d hd => hok d (List.mem_cons_of_mem _ hd)) hw' hs (by omega) (by simp [hg])
    obtain ⟨g1, g2, g3⟩ := given_le (got := w.Split.Owner) hc hw.rest hw.owed
    obtain ⟨hk, hce, hp, hmo⟩ := (okC_iff c).1 hc
    obtain ⟨h1, h2, h3, h4, h5, h6, h7, h8⟩ := hw
    have hrun : (runW (c :: l) w) = ((runW l (stepW c w)).1, given c w.rest w.Split.Owner w.owed :: (runW l (stepW c w)).2) := rfl
    rw [hrun]
    have ha : ∀ x : Int, app gave [x] = some (gave ++ [x]) := fun x => app_ok (by simp; omega)
    simp only [ref09_Gone_l1, ref09_Gone_l1_b]
    rw [if_pos (by simp; omega), show idx s.Clauses (pre.length : Int) = some c by rw [he, idx_mid], w64_id (x := s.Loan - w.Split.Repaid) (by omega) (by omega), show s.Loan - w.Split.Repaid = w.owed by omega]
    simp only [Option.bind_some]
    rw [Given_eq hc (by omega) (by omega)]
    simp only [Option.bind_some, ha, ref09_IsOwners, ref09_Gone_j3, ref09_Gone_j2]
    have c1 : (((pre ++ [c]).length : Nat) : Int) = (pre.length : Int) + 1 := by simp
    rw [c1] at h
    generalize hge : given c w.rest w.Split.Owner w.owed = n at g1 g2 g3 h ⊢
    have hst : stepW c w = if c.Kind = 1 then ⟨⟨w.Split.Operator + n, w.Split.Owner, w.Split.Repaid⟩, w.rest - n, w.owed⟩
  else if c.Kind = 2 then ⟨⟨w.Split.Operator + n, w.Split.Owner, w.Split.Repaid + n⟩, w.rest - n, w.owed - n⟩
  else ⟨⟨w.Split.Operator, w.Split.Owner + n, w.Split.Repaid⟩, w.rest - n, w.owed⟩ := by unfold stepW; rw [hge]
    have hres : (gave ++ n :: (runW l (stepW c w)).2, (finW (runW l (stepW c w)).1).Split) = (gave ++ [n] ++ (runW l (stepW c w)).2, (finW (runW l (stepW c w)).1).Split) := by simp
    rw [hres, ← h, hst]
    rw [w64_id (x := w.rest - n) (by omega) (by omega), w64_id (x := (pre.length : Int) + 1) (by omega) (by omega)]
    by_cases k1 : c.Kind = 1
    · rw [if_neg (by simp [k1]), if_neg (by simp [k1]), if_pos k1]
    rw [if_neg k1]
    by_cases k2 : c.Kind = 2
    · have := g3 k2
      rw [if_neg (by simp [k2]), if_pos (by simp [k2]), if_pos k2, w64_id (by omega) (by omega)]
    rw [if_neg k2, if_pos (by simp; omega), if_neg (by simp [k2]), w64_id (by omega) (by omega)]
theorem Gone_eq {n : Nat} {s : Share} {t gift : Int} (hl : ∀ c ∈ s.Clauses, okC c = true) (hs : s.Clauses.length < 1000) (hn : s.Clauses.length < n) (ho : 0 ≤ s.Loan ∧ s.Loan ≤ 9999) (ht : 0 ≤ t ∧ t ≤ 9999) (hg : 0 ≤ gift) :
    ref09_Gone n s t gift = some ((setl s.Clauses s.Loan t gift).2, (setl s.Clauses s.Loan t gift).1.Split) := by
  have h := Gone_l1_eq (t := t) s ht.2 ho.2 s.Clauses [] n [] (startW s.Loan t gift) rfl hl (startW_wb ho.1 ht.1 hg) hs hn rfl
  unfold ref09_Gone
  rw [w64_id (by omega) (by omega)]
  exact h

/-! ### Equal lists and contracts -/
theorem SameInts_refl {n : Nat} (l : List Int) (hs : l.length < 1048576) (hn : l.length < n) : ref01_SameInts n l l = some true := by
  have key : ∀ (k pre : List Int) (m : Nat), l = pre ++ k → k.length < m → ref01_SameInts_l1 l l m (pre.length : Int) = some true := by
    intro k
    induction k with
    | nil =>
      intro pre m he hm
      obtain ⟨m, rfl⟩ : ∃ k, m = k + 1 := ⟨m - 1, by omega⟩
      simp [ref01_SameInts_l1, ref01_SameInts_l1_b, ref01_SameInts_j1, he]
    | cons x k ih =>
      intro pre m he hm
      simp at hm
      have hl : l.length = pre.length + (k.length + 1) := by simp [he]
      obtain ⟨m, rfl⟩ : ∃ k, m = k + 1 := ⟨m - 1, by omega⟩
      have h := ih (pre ++ [x]) m (by simp [he]) (by omega)
      simp only [ref01_SameInts_l1, ref01_SameInts_l1_b]
      rw [if_pos (by simp; omega), show idx l (pre.length : Int) = some x by rw [he, idx_mid], w64_id (by omega) (by omega)]
      simpa using h
  unfold ref01_SameInts
  simp only [bne_self_eq_false, Bool.false_eq_true, if_false]
  exact key l [] n rfl hn
theorem same_refl {n : Nat} (s : Share) (hs : s.Clauses.length < 1048576) (hn : s.Clauses.length < n) : law09_same n s s = some true := by
  have key : ∀ (k pre : List Clause) (m : Nat), s.Clauses = pre ++ k → k.length < m → law09_same_l1 s s m (pre.length : Int) = some true := by
    intro k
    induction k with
    | nil =>
      intro pre m he hm
      obtain ⟨m, rfl⟩ : ∃ k, m = k + 1 := ⟨m - 1, by omega⟩
      simp [law09_same_l1, law09_same_l1_b, law09_same_j2, he]
    | cons x k ih =>
      intro pre m he hm
      simp at hm
      have hl : s.Clauses.length = pre.length + (k.length + 1) := by simp [he]
      obtain ⟨m, rfl⟩ : ∃ k, m = k + 1 := ⟨m - 1, by omega⟩
      have h := ih (pre ++ [x]) m (by simp [he]) (by omega)
      simp only [law09_same_l1, law09_same_l1_b]
      rw [if_pos (by simp; omega), show idx s.Clauses (pre.length : Int) = some x by rw [he, idx_mid], w64_id (by omega) (by omega)]
      simpa using h
  unfold law09_same law09_same_j1
  simp only [bne_self_eq_false, Bool.false_eq_true, if_false]
  exact key s.Clauses [] n rfl hn
theorem Copy_eq (s : Share) (hs : s.Clauses.length < 1048576) : ref09_Copy s = some s := by
  unfold ref09_Copy
  rw [app_ok (by simp; omega)]
  simp
theorem far_eq (s : Share) : law09_far s = some (decide ((s.Clauses.length : Int) > 40)) := rfl
theorem okS_iff (s : Share) : okS s = true ↔ s.Clauses.length ≤ 5 ∧ (∀ c ∈ s.Clauses, okC c = true) ∧ (0 ≤ s.Loan ∧ s.Loan ≤ 9999) := by
  simp [okS, inR_iff, and_assoc]
end Go.Law
