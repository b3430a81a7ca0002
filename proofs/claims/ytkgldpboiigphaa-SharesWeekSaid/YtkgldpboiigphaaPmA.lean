/-
  Plain laws.
  Conditions: none.
-/
import Derived.Test.YtkgldpboiigphaaPlA
import Derived.Test.YtkgldpboiigphaaMd
set_option linter.all false
namespace Go.Law
open Go Go.AM
set_option linter.unusedVariables false
set_option linter.unusedSimpArgs false

/-! ### Validity -/
def okC (c : Clause) : Bool := inR c.Kind 1 5 && inR c.Cents 0 9999 && inR c.Part 0 100 && inR c.More 0 100
def okS (s : Share) : Bool := decide (s.Clauses.length ≤ 5) && s.Clauses.all okC && inR s.Loan 0 9999
theorem within_eq (a b c : Int) : shares_within a b c = some (inR a b c) := by
  unfold shares_within shares_within_j1 inR
  by_cases h : b ≤ a <;> simp [h]
theorem isCents_eq (a : Int) : shares_isCents a = some (inR a 0 9999) := by simp [shares_isCents, within_eq]
theorem Within_eq (a b c : Int) : ref01_Within a b c = some (inR a b c) := by
  unfold ref01_Within ref01_Within_j1 inR
  by_cases h : b ≤ a <;> simp [h]
theorem rwithin_eq (a b c : Int) : ref09_within a b c = some (inR a b c) := by simp [ref09_within, Within_eq]
theorem IsCents_eq (a : Int) : ref09_IsCents a = some (inR a 0 9999) := by simp [ref09_IsCents, rwithin_eq]
theorem Check_c1_eq (c : Clause) : shares_Check_c1 c = some (!okC c) := by
  unfold shares_Check_c1 shares_Check_c1_j1 okC
  simp only [within_eq, isCents_eq, Option.bind_some]
  cases inR c.Kind 1 5 <;> cases inR c.Cents 0 9999 <;> cases inR c.Part 0 100 <;> cases inR c.More 0 100 <;> rfl
theorem IndexFunc_eq (bad : Clause → Bool) (f : Clause → Unit → Option (Bool × Unit)) (hf : ∀ c, f c () = some (bad c, ())) :
    ∀ (l pre : List Clause) (m : Nat), (pre ++ l).length < 1048576 → l.length < m → ∃ r, slices_IndexFunc_apiClause_l1 (pre ++ l) f m (pre.length : Int) () = some (r, ()) ∧ decide (r ≥ 0) = l.any bad := by
  intro l
  induction l with
  | nil =>
    intro pre m hs hm
    obtain ⟨m, rfl⟩ : ∃ k, m = k + 1 := ⟨m - 1, by omega⟩
    refine ⟨-1, ?_, by simp⟩
    simp [slices_IndexFunc_apiClause_l1, slices_IndexFunc_apiClause_l1_b, slices_IndexFunc_apiClause_j1]
  | cons c l ih =>
    intro pre m hs hm
    simp at hs hm
    obtain ⟨m, rfl⟩ : ∃ k, m = k + 1 := ⟨m - 1, by omega⟩
    simp only [slices_IndexFunc_apiClause_l1, slices_IndexFunc_apiClause_l1_b]
    rw [if_pos (by simp; omega)]
    simp only [idx_mid, Option.bind_some, hf]
    cases hb : bad c with
    | true => exact ⟨pre.length, by simp, by simp [hb]⟩
    | false =>
      obtain ⟨r, h1, h2⟩ := ih (pre ++ [c]) m (by simp; omega) (by omega)
      refine ⟨r, ?_, by simp [hb, h2]⟩
      rw [w64_id (by omega) (by omega)]
      simpa using h1
theorem Check_eq {n : Nat} (hn : 6 ≤ n) (s : Share) : shares_Check n s = some (if okS s then 0 else 90) := by
  unfold shares_Check shares_Check_j1 okS
  by_cases h5 : s.Clauses.length ≤ 5
  · rw [if_neg (by simp; omega)]
    obtain ⟨r, h1, h2⟩ := IndexFunc_eq (fun c => !okC c) (fun (x0 : Clause) (_ : Unit) => (shares_Check_c1 x0).map fun y => (y, ())) (fun c => by simp [Check_c1_eq]) s.Clauses [] n (by simp; omega) (by omega)
    have h1 : slices_IndexFunc_apiClause n (fun (x0 : Clause) (_ : Unit) => (shares_Check_c1 x0).map fun y => (y, ())) s.Clauses () = some (r, ()) := by simpa [slices_IndexFunc_apiClause] using h1
    simp only [slices_ContainsFunc_apiClause, h1, Option.bind_some, h2, isCents_eq]
    have e : s.Clauses.any (fun c => !okC c) = !s.Clauses.all okC := by rw [List.not_all_eq_any_not]
    rw [e]
    cases s.Clauses.all okC <;> cases inR s.Loan 0 9999 <;> simp [h5]
  · rw [if_pos (by simp; omega)]
    simp [h5]
theorem Check_l1_eq (s : Share) :
    ∀ (l pre : List Clause) (m : Nat), s.Clauses = pre ++ l → s.Clauses.length < 1048576 → l.length < m → ref09_Check_l1 s m (pre.length : Int) = some (if l.all okC then 0 else 90) := by
  intro l
  induction l with
  | nil =>
    intro pre m he hs hm
    obtain ⟨m, rfl⟩ : ∃ k, m = k + 1 := ⟨m - 1, by omega⟩
    simp [ref09_Check_l1, ref09_Check_l1_b, ref09_Check_j2, he]
  | cons c l ih =>
    intro pre m he hs hm
    simp at hm
    have hl : s.Clauses.length = pre.length + l.length + 1 := by simp [he]; omega
    obtain ⟨m, rfl⟩ : ∃ k, m = k + 1 := ⟨m - 1, by omega⟩
    have h1 := ih (pre ++ [c]) m (by simp [he]) hs (by omega)
    have h1 : ref09_Check_l1 s m ((pre.length : Int) + 1) = some (if l.all okC then 0 else 90) := by simpa using h1
    simp only [ref09_Check_l1, ref09_Check_l1_b]
    rw [if_pos (by simp; omega), show idx s.Clauses (pre.length : Int) = some c by rw [he, idx_mid]]
    simp only [Option.bind_some, rwithin_eq, IsCents_eq, ref09_Check_j3, h1, okC, List.all_cons, w64_id (show -9223372036854775808 ≤ (pre.length : Int) + 1 by omega) (show (pre.length : Int) + 1 < 9223372036854775808 by omega)]
    rcases Bool.eq_false_or_eq_true (inR c.Kind 1 5) with q1 | q1 <;> rcases Bool.eq_false_or_eq_true (inR c.Cents 0 9999) with q2 | q2 <;>
      rcases Bool.eq_false_or_eq_true (inR c.Part 0 100) with q3 | q3 <;> rcases Bool.eq_false_or_eq_true (inR c.More 0 100) with q4 | q4 <;> simp [q1, q2, q3, q4]
theorem rCheck_eq {n : Nat} (hn : 6 ≤ n) (s : Share) : ref09_Check n s = some (if okS s then 0 else 90) := by
  unfold ref09_Check ref09_Check_j1 okS
  by_cases h5 : s.Clauses.length ≤ 5
  · rw [if_neg (by simp; omega)]
    have h1 := Check_l1_eq s s.Clauses [] n rfl (by omega) (by omega)
    have h1 : ref09_Check_l1 s n 0 = some (if s.Clauses.all okC then 0 else 90) := h1
    simp only [IsCents_eq, Option.bind_some, h1]
    cases s.Clauses.all okC <;> cases inR s.Loan 0 9999 <;> simp [h5]
  · rw [if_pos (by simp; omega)]
    simp [h5]
theorem ask_eq {n : Nat} (hn : 6 ≤ n) (s : Share) (b : Bool) : shares_ask n s b = some (if okS s then (if b then 0 else 1) else 90) := by
  unfold shares_ask
  rw [Check_eq hn]
  cases okS s <;> cases b <;> rfl
theorem rask_eq {n : Nat} (hn : 6 ≤ n) (s : Share) (b : Bool) : ref09_ask n s b = some (if okS s then (if b then 0 else 1) else 90) := by
  unfold ref09_ask
  rw [rCheck_eq hn]
  cases okS s <;> cases b <;> rfl

/-! ### A week -/
def given (c : Clause) (rest got owed : Int) : Int :=
  if c.Kind = 1 then min rest c.Cents
  else if c.Kind = 2 then min (min rest c.Cents) owed
  else if c.Kind = 3 then c.Part * rest / 500 * 5
  else if c.Kind = 4 then (c.Part * min rest c.Cents + c.More * (rest - min rest c.Cents)) / 500 * 5
  else min rest (max 0 (c.Cents - got))
def stepW (c : Clause) (w : Week_) : Week_ :=
  let n := given c w.rest w.Split.Owner w.owed
  if c.Kind = 1 then ⟨⟨w.Split.Operator + n, w.Split.Owner, w.Split.Repaid⟩, w.rest - n, w.owed⟩
  else if c.Kind = 2 then ⟨⟨w.Split.Operator + n, w.Split.Owner, w.Split.Repaid + n⟩, w.rest - n, w.owed - n⟩
  else ⟨⟨w.Split.Operator, w.Split.Owner + n, w.Split.Repaid⟩, w.rest - n, w.owed⟩
def runW : List Clause → Week_ → Week_ × List Int
  | [], w => (w, [])
  | c :: l, w => ((runW l (stepW c w)).1, given c w.rest w.Split.Owner w.owed :: (runW l (stepW c w)).2)
def finW (w : Week_) : Week_ := ⟨⟨w.Split.Operator + w.rest, w.Split.Owner, w.Split.Repaid⟩, 0, w.owed⟩
def startW (owed t gift : Int) : Week_ := ⟨⟨0, min gift t, 0⟩, t - min gift t, owed⟩
def setl (l : List Clause) (owed t gift : Int) : Week_ × List Int := (finW (runW l (startW owed t gift)).1, (runW l (startW owed t gift)).2)
/-- What is so of a week of takings t and a loan. -/
structure WB (t loan : Int) (w : Week_) : Prop where
  op : 0 ≤ w.Split.Operator
  ow : 0 ≤ w.Split.Owner
  rp : 0 ≤ w.Split.Repaid
  rest : 0 ≤ w.rest
  owed : 0 ≤ w.owed
  sum : w.Split.Operator + w.Split.Owner + w.rest = t
  rep : w.Split.Repaid ≤ w.Split.Operator
  loan : w.Split.Repaid + w.owed = loan
theorem okC_iff (c : Clause) : okC c = true ↔ (1 ≤ c.Kind ∧ c.Kind ≤ 5) ∧ (0 ≤ c.Cents ∧ c.Cents ≤ 9999) ∧ (0 ≤ c.Part ∧ c.Part ≤ 100) ∧ (0 ≤ c.More ∧ c.More ≤ 100) := by
  simp [okC, inR_iff, and_assoc]
theorem part_le {p x : Int} (h0 : 0 ≤ p) (h1 : p ≤ 100) (hx : 0 ≤ x) : 0 ≤ p * x ∧ p * x ≤ 100 * x :=
  ⟨Int.mul_nonneg h0 hx, Int.mul_le_mul_of_nonneg_right h1 hx⟩
theorem given_le {c : Clause} {rest got owed : Int} (hc : okC c = true) (hr : 0 ≤ rest) (ho : 0 ≤ owed) : 0 ≤ given c rest got owed ∧ given c rest got owed ≤ rest ∧ (c.Kind = 2 → given c rest got owed ≤ owed) := by
  obtain ⟨hk, hce, hp, hm⟩ := (okC_iff c).1 hc
  unfold given
  by_cases h1 : c.Kind = 1
  · rw [if_pos h1]; omega
  rw [if_neg h1]
  by_cases h2 : c.Kind = 2
  · rw [if_pos h2]; omega
  rw [if_neg h2]
  by_cases h3 : c.Kind = 3
  · rw [if_pos h3]
    have := part_le hp.1 hp.2 hr
    omega
  rw [if_neg h3]
  by_cases h4 : c.Kind = 4
  · rw [if_pos h4]
    have := part_le hp.1 hp.2 (show 0 ≤ min rest c.Cents by omega)
    have := part_le hm.1 hm.2 (show 0 ≤ rest - min rest c.Cents by omega)
    omega
  rw [if_neg h4]
  omega
theorem stepW_wb {t loan : Int} {c : Clause} {w : Week_} (hc : okC c = true) (hw : WB t loan w) : WB t loan (stepW c w) := by
  obtain ⟨h1, h2, h3, h4, h5, h6, h7, h8⟩ := hw
  obtain ⟨g1, g2, g3⟩ := given_le (got := w.Split.Owner) hc h4 h5
  unfold stepW
  dsimp only
  generalize given c w.rest w.Split.Owner w.owed = n at g1 g2 g3
  by_cases k1 : c.Kind = 1
  · rw [if_pos k1]; constructor <;> dsimp only <;> omega
  rw [if_neg k1]
  by_cases k2 : c.Kind = 2
  · rw [if_pos k2]; have := g3 k2; constructor <;> dsimp only <;> omega
  rw [if_neg k2]
  constructor <;> dsimp only <;> omega
theorem runW_wb {t loan : Int} : ∀ {l : List Clause} {w : Week_}, (∀ c ∈ l, okC c = true) → WB t loan w → WB t loan (runW l w).1
  | [], _, _, hw => hw
  | c :: l, w, hc, hw => runW_wb (l := l) (fun d hd => hc d (List.mem_cons_of_mem _ hd)) (stepW_wb (hc c (List.mem_cons_self ..)) hw)
theorem startW_wb {owed t gift : Int} (ho : 0 ≤ owed) (ht : 0 ≤ t) (hg : 0 ≤ gift) : WB t owed (startW owed t gift) := by
  unfold startW
  constructor <;> dsimp only <;> omega
theorem finW_wb {t loan : Int} {w : Week_} (hw : WB t loan w) : WB t loan (finW w) := by
  obtain ⟨h1, h2, h3, h4, h5, h6, h7, h8⟩ := hw
  unfold finW
  constructor <;> dsimp only <;> omega
theorem setl_wb {l : List Clause} {owed t gift : Int} (hl : ∀ c ∈ l, okC c = true) (ho : 0 ≤ owed) (ht : 0 ≤ t) (hg : 0 ≤ gift) : WB t owed (setl l owed t gift).1 :=
  finW_wb (runW_wb hl (startW_wb ho ht hg))
theorem runW_len : ∀ (l : List Clause) (w : Week_), (runW l w).2.length = l.length
  | [], _ => rfl
  | c :: l, w => by simp [runW, runW_len l]
/-- What a clause does, by the code. -/
theorem five_eq {x : Int} (h0 : 0 ≤ x) (h1 : x ≤ 999900) : shares_five x = some (x / 500 * 5) := by
  unfold shares_five
  rw [quo_nn h0 (by omega) (by omega)]
  simp only [Option.bind_some]
  rw [w64_id (by omega) (by omega)]
theorem settle_l1_eq {t loan : Int} (ht : t ≤ 9999) (hlo : loan ≤ 9999) :
    ∀ (l pre : List Clause) (m : Nat) (gave : List Int) (w : Week_), (∀ c ∈ l, okC c = true) → WB t loan w → (pre ++ l).length < 1000 → l.length < m → gave.length = pre.length →
      shares_settle_l1 (pre ++ l) m gave (pre.length : Int) w.Split.Operator w.Split.Owner w.Split.Repaid w.rest w.owed = some (finW (runW l w).1, gave ++ (runW l w).2) := by
  intro l
  induction l with
  | nil =>
    intro pre m gave w hok hw hs hm hg
    obtain ⟨m, rfl⟩ : ∃ k, m = k + 1 := ⟨m - 1, by omega⟩
    obtain ⟨h1, h2, h3, h4, h5, h6, h7, h8⟩ := hw
    simp only [shares_settle_l1, shares_settle_l1_b]
    rw [if_neg (by simp)]
    simp only [shares_settle_j1, shares_week_operator, Option.bind_some, runW, finW, List.append_nil]
    rw [w64_id (by omega) (by omega), Int.sub_self]
    rfl
  | cons c l ih =>
    intro pre m gave w hok hw hs hm hg
    simp at hm hs
    obtain ⟨m, rfl⟩ : ∃ k, m = k + 1 := ⟨m - 1, by omega⟩
    have hc := hok c (List.mem_cons_self ..)
    have hw' := stepW_wb hc hw
    have h := ih (pre ++ [c]) m (gave ++ [given c w.rest w.Split.Owner w.owed]) (stepW c w) (fun d hd => hok d (List.mem_cons_of_mem _ hd)) hw' (by simp; omega) (by omega) (by simp [hg])
    obtain ⟨g1, g2, g3⟩ := given_le (got := w.Split.Owner) hc hw.rest hw.owed
    obtain ⟨hk, hce, hp, hmo⟩ := (okC_iff c).1 hc
    obtain ⟨h1, h2, h3, h4, h5, h6, h7, h8⟩ := hw
    simp only [List.append_assoc, List.singleton_append, List.length_append, List.length_singleton] at h
    simp only [shares_settle_l1, shares_settle_l1_b]
    rw [if_pos (by simp; omega)]
    simp only [idx_mid, Option.bind_some]
    rw [w64_id (by omega) (by omega)]
    have ha : ∀ x : Int, app gave [x] = some (gave ++ [x]) := fun x => app_ok (by simp; omega)
    have hrun : (runW (c :: l) w) = ((runW l (stepW c w)).1, given c w.rest w.Split.Owner w.owed :: (runW l (stepW c w)).2) := rfl
    rw [hrun]
    have hr : w.rest ≤ 9999 := by omega
    generalize hge : given c w.rest w.Split.Owner w.owed = n at g1 g2 g3 h ⊢
    have hst : stepW c w = if c.Kind = 1 then ⟨⟨w.Split.Operator + n, w.Split.Owner, w.Split.Repaid⟩, w.rest - n, w.owed⟩
  else if c.Kind = 2 then ⟨⟨w.Split.Operator + n, w.Split.Owner, w.Split.Repaid + n⟩, w.rest - n, w.owed - n⟩
  else ⟨⟨w.Split.Operator, w.Split.Owner + n, w.Split.Repaid⟩, w.rest - n, w.owed⟩ := by unfold stepW; rw [hge]
    have c1 : ((pre.length + 1 : Nat) : Int) = (pre.length : Int) + 1 := by omega
    rw [c1] at h
    simp only at h ⊢
    rw [← h]
    rw [hst]
    unfold given at hge
    by_cases k1 : c.Kind = 1
    · rw [if_pos (by simp [k1]), if_pos k1]
      rw [if_pos k1] at hge
      simp only [shares_rules_c1, shares_week_operator, Option.bind_some, hge, ha]
      rw [w64_id (by omega) (by omega), w64_id (by omega) (by omega)]
    rw [if_neg (by simp [k1]), if_neg k1]
    rw [if_neg k1] at hge
    by_cases k2 : c.Kind = 2
    · rw [if_pos (by simp [k2]), if_pos k2]
      rw [if_pos k2] at hge
      have g3 := g3 k2
      simp only [shares_week_repay, shares_week_operator, Option.bind_some, hge, ha]
      rw [w64_id (x := w.Split.Operator + n) (by omega) (by omega), w64_id (x := w.rest - n) (by omega) (by omega), w64_id (x := w.Split.Repaid + n) (by omega) (by omega), w64_id (x := w.owed - n) (by omega) (by omega)]
    rw [if_neg (by simp [k2]), if_neg k2]
    rw [if_neg k2] at hge
    by_cases k3 : c.Kind = 3
    · rw [if_pos (by simp [k3])]
      rw [if_pos k3] at hge
      have := part_le hp.1 hp.2 h4
      simp only [shares_rules_c2, shares_week_owner]
      rw [w64_id (by omega) (by omega), five_eq (by omega) (by omega)]
      simp only [Option.bind_some, hge, ha]
      rw [w64_id (by omega) (by omega), w64_id (by omega) (by omega)]
    rw [if_neg (by simp [k3])]
    rw [if_neg k3] at hge
    by_cases k4 : c.Kind = 4
    · rw [if_pos (by simp [k4])]
      rw [if_pos k4] at hge
      have := part_le hp.1 hp.2 (show 0 ≤ min w.rest c.Cents by omega)
      have := part_le hmo.1 hmo.2 (show 0 ≤ w.rest - min w.rest c.Cents by omega)
      simp only [shares_rules_c3, shares_week_owner]
      rw [w64_id (x := w.rest - min w.rest c.Cents) (by omega) (by omega), w64_id (x := c.Part * min w.rest c.Cents) (by omega) (by omega), w64_id (x := c.More * (w.rest - min w.rest c.Cents)) (by omega) (by omega), w64_id (by omega) (by omega), five_eq (by omega) (by omega)]
      simp only [Option.bind_some, hge, ha]
      rw [w64_id (by omega) (by omega), w64_id (by omega) (by omega)]
    rw [if_neg (by simp [k4])]
    rw [if_neg k4] at hge
    · rw [if_pos (by simp; omega)]
      simp only [shares_rules_c4, shares_week_owner]
      rw [w64_id (x := c.Cents - w.Split.Owner) (by omega) (by omega)]
      simp only [Option.bind_some, hge, ha]
      rw [w64_id (by omega) (by omega), w64_id (by omega) (by omega)]
theorem settle_eq {n : Nat} {l : List Clause} {owed t gift : Int} (hl : ∀ c ∈ l, okC c = true) (hs : l.length < 1000) (hn : l.length < n) (ho : 0 ≤ owed ∧ owed ≤ 9999) (ht : 0 ≤ t ∧ t ≤ 9999) (hg : 0 ≤ gift) :
    shares_settle n l owed t gift = some (setl l owed t gift) := by
  have h := settle_l1_eq (t := t) (loan := owed) ht.2 ho.2 l [] n [] (startW owed t gift) hl (startW_wb ho.1 ht.1 hg) (by simpa using hs) hn rfl
  unfold shares_settle shares_week_owner
  simp only [Option.bind_some]
  rw [Int.zero_add, w64_id (by omega) (by omega), w64_id (by omega) (by omega)]
  exact h
theorem owners_eq {n : Nat} {l : List Clause} {owed t : Int} (hl : ∀ c ∈ l, okC c = true) (hs : l.length < 1000) (hn : l.length < n) (ho : 0 ≤ owed ∧ owed ≤ 9999) (ht : 0 ≤ t ∧ t ≤ 9999) :
    shares_owners n l owed t = some (setl l owed t 0).1.Split.Owner := by
  unfold shares_owners
  rw [settle_eq hl hs hn ho ht (by omega)]
  rfl

/-! ### A week of the reference -/
theorem Given_eq {c : Clause} {rest got owed : Int} (hc : okC c = true) (hr : 0 ≤ rest ∧ rest ≤ 9999) (hg : 0 ≤ got ∧ got ≤ 9999) : ref09_Given c rest got owed = some (given c rest got owed) := by
  obtain ⟨hk, hce, hp, hm⟩ := (okC_iff c).1 hc
  unfold ref09_Given given
  by_cases k1 : c.Kind = 1
  · simp [k1]
  rw [if_neg (by simp [k1]), if_neg k1]
  by_cases k2 : c.Kind = 2
  · simp [k2]
  rw [if_neg (by simp [k2]), if_neg k2]
  by_cases k3 : c.Kind = 3
  · rw [if_pos (by simp [k3]), if_pos k3]
    have := part_le hp.1 hp.2 hr.1
    rw [w64_id (by omega) (by omega), quo_nn (by omega) (by omega) (by omega)]
    simp only [Option.bind_some]
    rw [w64_id (by omega) (by omega)]
  rw [if_neg (by simp [k3]), if_neg k3]
  by_cases k4 : c.Kind = 4
  · rw [if_pos (by simp [k4]), if_pos k4]
    have := part_le hp.1 hp.2 (show 0 ≤ min rest c.Cents by omega)
    have := part_le hm.1 hm.2 (show 0 ≤ rest - min rest c.Cents by omega)
    rw [w64_id (x := rest - min rest c.Cents) (by omega) (by omega), w64_id (x := c.Part * min rest c.Cents) (by omega) (by omega), w64_id (x := c.More * (rest - min rest c.Cents)) (by omega) (by omega), w64_id (by omega) (by omega), quo_nn (by omega) (by omega) (by omega)]
    simp only [Option.bind_some]
    rw [w64_id (by omega) (by omega)]
  rw [if_neg (by simp [k4]), if_neg k4, w64_id (by omega) (by omega)]
theorem Gone_l1_eq {t : Int} (s : Share) (ht : t ≤ 9999) (hlo : s.Loan ≤ 9999) :
    ∀ (l pre : List Clause) (m : Nat) (gave : List Int) (w : Week_), s.Clauses = pre ++ l → (∀ c ∈ l, okC c = true) → WB t s.Loan w → s.Clauses.length < 1000 → l.length < m → gave.length = pre.length →
      ref09_Gone_l1 s t m w.rest gave (pre.length : Int) w.Split.Owner w.Split.Repaid = some (gave ++ (runW l w).2, (finW (runW l w).1).Split) := by
  intro l
  induction l with
  | nil =>
    intro pre m gave w he hok hw hs hm hg
    obtain ⟨m, rfl⟩ : ∃ k, m = k + 1 := ⟨m - 1, by omega⟩
    obtain ⟨h1, h2, h3, h4, h5, h6, h7, h8⟩ := hw
    simp only [ref09_Gone_l1, ref09_Gone_l1_b]
    rw [if_neg (by simp [he])]
    simp only [ref09_Gone_j1, runW, finW, List.append_nil]
    rw [w64_id (by omega) (by omega)]
    simp; omega
  | cons c l ih =>
    intro pre m gave w he hok hw hs hm hg
    simp at hm
    have hlen : s.Clauses.length = pre.length + (l.length + 1) := by simp [he]
    obtain ⟨m, rfl⟩ : ∃ k, m = k + 1 := ⟨m - 1, by omega⟩
    have hc := hok c (List.mem_cons_self ..)
    have hw' := stepW_wb hc hw
    have h := ih (pre ++ [c]) m (gave ++ [given c w.rest w.Split.Owner w.owed]) (stepW c w) (by simp [he]) (fun d hd => hok d (List.mem_cons_of_mem _ hd)) hw' hs (by omega) (by simp [hg])
    obtain ⟨g1, g2, g3⟩ := given_le (got := w.Split.Owner) hc hw.rest hw.owed
    obtain ⟨hk, hce, hp, hmo⟩ := (okC_iff c).1 hc
    obtain ⟨h1, h2, h3, h4, h5, h6, h7, h8⟩ := hw
    have hrun : (runW (c :: l) w) = ((runW l (stepW c w)).1, given c w.rest w.Split.Owner w.owed :: (runW l (stepW c w)).2) := rfl
    rw [hrun]
    have ha : ∀ x : Int, app gave [x] = some (gave ++ [x]) := fun x => app_ok (by simp; omega)
    simp only [ref09_Gone_l1, ref09_Gone_l1_b]
    rw [if_pos (by simp; omega), show idx s.Clauses (pre.length : Int) = some c by rw [he, idx_mid], w64_id (x := s.Loan - w.Split.Repaid) (by omega) (by omega), show s.Loan - w.Split.Repaid = w.owed by omega]
    simp only [Option.bind_some]
    rw [Given_eq hc (by omega) (by omega)]
    simp only [Option.bind_some, ha, ref09_IsOwners, ref09_Gone_j3, ref09_Gone_j2]
    have c1 : (((pre ++ [c]).length : Nat) : Int) = (pre.length : Int) + 1 := by simp
    rw [c1] at h
    generalize hge : given c w.rest w.Split.Owner w.owed = n at g1 g2 g3 h ⊢
    have hst : stepW c w = if c.Kind = 1 then ⟨⟨w.Split.Operator + n, w.Split.Owner, w.Split.Repaid⟩, w.rest - n, w.owed⟩
  else if c.Kind = 2 then ⟨⟨w.Split.Operator + n, w.Split.Owner, w.Split.Repaid + n⟩, w.rest - n, w.owed - n⟩
  else ⟨⟨w.Split.Operator, w.Split.Owner + n, w.Split.Repaid⟩, w.rest - n, w.owed⟩ := by unfold stepW; rw [hge]
    have hres : (gave ++ n :: (runW l (stepW c w)).2, (finW (runW l (stepW c w)).1).Split) = (gave ++ [n] ++ (runW l (stepW c w)).2, (finW (runW l (stepW c w)).1).Split) := by simp
    rw [hres, ← h, hst]
    rw [w64_id (x := w.rest - n) (by omega) (by omega), w64_id (x := (pre.length : Int) + 1) (by omega) (by omega)]
    by_cases k1 : c.Kind = 1
    · rw [if_neg (by simp [k1]), if_neg (by simp [k1]), if_pos k1]
    rw [if_neg k1]
    by_cases k2 : c.Kind = 2
    · have := g3 k2
      rw [if_neg (by simp [k2]), if_pos (by simp [k2]), if_pos k2, w64_id (by omega) (by omega)]
    rw [if_neg k2, if_pos (by simp; omega), if_neg (by simp [k2]), w64_id (by omega) (by omega)]
theorem Gone_eq {n : Nat} {s : Share} {t gift : Int} (hl : ∀ c ∈ s.Clauses, okC c = true) (hs : s.Clauses.length < 1000) (hn : s.Clauses.length < n) (ho : 0 ≤ s.Loan ∧ s.Loan ≤ 9999) (ht : 0 ≤ t ∧ t ≤ 9999) (hg : 0 ≤ gift) :
    ref09_Gone n s t gift = some ((setl s.Clauses s.Loan t gift).2, (setl s.Clauses s.Loan t gift).1.Split) := by
  have h := Gone_l1_eq (t := t) s ht.2 ho.2 s.Clauses [] n [] (startW s.Loan t gift) rfl hl (startW_wb ho.1 ht.1 hg) hs hn rfl
  unfold ref09_Gone
  rw [w64_id (by omega) (by omega)]
  exact h

/-! ### Equal lists and contracts -/
theorem same_refl {n : Nat} (s : Share) (hs : s.Clauses.length < 1048576) (hn : s.Clauses.length < n) : law09_same n s s = some true := by
  have key : ∀ (k pre : List Clause) (m : Nat), s.Clauses = pre ++ k → k.length < m → law09_same_l1 s s m (pre.length : Int) = some true := by
    intro k
    induction k with
    | nil =>
      intro pre m he hm
      obtain ⟨m, rfl⟩ : ∃ k, m = k + 1 := ⟨m - 1, by omega⟩
      simp [law09_same_l1, law09_same_l1_b, law09_same_j2, he]
    | cons x k ih =>
      intro pre m he hm
      simp at hm
      have hl : s.Clauses.length = pre.length + (k.length + 1) := by simp [he]
      obtain ⟨m, rfl⟩ : ∃ k, m = k + 1 := ⟨m - 1, by omega⟩
      have h := ih (pre ++ [x]) m (by simp [he]) (by omega)
      simp only [law09_same_l1, law09_same_l1_b]
      rw [if_pos (by simp; omega), show idx s.Clauses (pre.length : Int) = some x by rw [he, idx_mid], w64_id (by omega) (by omega)]
      simpa using h
  unfold law09_same law09_same_j1
  simp only [bne_self_eq_false, Bool.false_eq_true, if_false]
  exact key s.Clauses [] n rfl hn
theorem Copy_eq (s : Share) (hs : s.Clauses.length < 1048576) : ref09_Copy s = some s := by
  unfold ref09_Copy
  rw [app_ok (by simp; omega)]
  simp
theorem far_eq (s : Share) : law09_far s = some (decide ((s.Clauses.length : Int) > 40)) := rfl
theorem okS_iff (s : Share) : okS s = true ↔ s.Clauses.length ≤ 5 ∧ (∀ c ∈ s.Clauses, okC c = true) ∧ (0 ≤ s.Loan ∧ s.Loan ≤ 9999) := by
  simp [okS, inR_iff, and_assoc]

theorem Gift_eq {n : Nat} (hn : 10 ≤ n) (s : Share) (t gift : Int) :
    shares_Gift n s t gift = some (if okS s then (if inR t 0 9999 && inR gift 0 9999 then ((setl s.Clauses s.Loan t gift).1.Split, 0) else (⟨0, 0, 0⟩, 1)) else (⟨0, 0, 0⟩, 90)) := by
  have h : shares_Gift n s t gift = shares_Gift_j1 n s t gift (if okS s then (if inR t 0 9999 && inR gift 0 9999 then 0 else 1) else 90) := by
    unfold shares_Gift
    rw [isCents_eq, isCents_eq]
    simp only [Option.bind_some]
    rw [ask_eq (by omega), ask_eq (by omega)]
    cases inR t 0 9999 <;> cases inR gift 0 9999 <;> simp
  rw [h]
  unfold shares_Gift_j1
  by_cases hs : okS s = true
  · obtain ⟨h5, hok, hlo⟩ := (okS_iff _).1 hs
    by_cases ht : (inR t 0 9999 && inR gift 0 9999) = true
    · have ht2 := ht
      simp only [Bool.and_eq_true, inR_iff] at ht2
      simp only [hs, ht, if_true, bne_self_eq_false, Bool.false_eq_true, if_false]
      rw [settle_eq hok (by omega) (by omega) hlo ht2.1 (by omega)]
      rfl
    · simp [hs, ht]
  · simp [hs]
theorem Week_eq {n : Nat} (hn : 10 ≤ n) (s : Share) (t : Int) :
    shares_Week n s t = some (if okS s then (if inR t 0 9999 then ((setl s.Clauses s.Loan t 0).1.Split, 0) else (⟨0, 0, 0⟩, 1)) else (⟨0, 0, 0⟩, 90)) := by
  unfold shares_Week
  rw [Gift_eq hn]
  simp only [Option.bind_some, show inR 0 0 9999 = true from rfl, Bool.and_true]
theorem works_eq : law09_works 20000 = some true := by decide +kernel
theorem isClause_eq {s : Share} {i : Int} (hs : s.Clauses.length < 1000) : shares_isClause s i = some (inR i 0 ((s.Clauses.length : Int) - 1)) := by
  unfold shares_isClause
  rw [w64_id (by omega) (by omega), within_eq]
  rfl
def gave (s : Share) (t : Int) : List Int := (setl s.Clauses s.Loan t 0).2
theorem gave_len (s : Share) (t : Int) : (gave s t).length = s.Clauses.length := runW_len _ _
theorem Gives_eq {n : Nat} (hn : 10 ≤ n) (s : Share) (t i : Int) (hb : s.Clauses.length < 1000) :
    shares_Gives n s t i = some (if okS s then (if inR t 0 9999 && inR i 0 ((s.Clauses.length : Int) - 1) then ((gave s t)[i.toNat]?.getD 0, 0) else (0, 1)) else (0, 90)) := by
  have h : shares_Gives n s t i = shares_Gives_j1 n s t i (if okS s then (if inR t 0 9999 && inR i 0 ((s.Clauses.length : Int) - 1) then 0 else 1) else 90) := by
    unfold shares_Gives
    rw [isCents_eq, isClause_eq hb]
    simp only [Option.bind_some]
    rw [ask_eq (by omega), ask_eq (by omega)]
    cases inR t 0 9999 <;> simp
  rw [h]
  unfold shares_Gives_j1
  by_cases hs : okS s = true
  · obtain ⟨h5, hok, hlo⟩ := (okS_iff _).1 hs
    by_cases ht : (inR t 0 9999 && inR i 0 ((s.Clauses.length : Int) - 1)) = true
    · have ht2 := ht
      simp only [Bool.and_eq_true, inR_iff] at ht2
      simp only [hs, ht, if_true, bne_self_eq_false, Bool.false_eq_true, if_false]
      rw [settle_eq hok (by omega) (by omega) hlo ht2.1 (by omega)]
      simp only [Option.bind_some]
      have hl := gave_len s t
      have : idx (gave s t) i = some ((gave s t)[i.toNat]?.getD 0) := by
        unfold idx
        rw [if_pos ht2.2.1, List.getElem?_eq_getElem (by omega)]
        rfl
      change (idx (gave s t) i).bind _ = _
      rw [this]
      rfl
    · simp [hs, ht]
  · simp [hs]

theorem rIsClause_eq {s : Share} {i : Int} (hs : s.Clauses.length < 1000) : ref09_IsClause s i = some (inR i 0 ((s.Clauses.length : Int) - 1)) := by
  unfold ref09_IsClause
  rw [w64_id (by omega) (by omega), rwithin_eq]
  rfl
theorem rGift_eq {n : Nat} (hn : 10 ≤ n) (s : Share) (t gift : Int) :
    ref09_Gift n s t gift = some (if okS s then (if inR t 0 9999 && inR gift 0 9999 then ((setl s.Clauses s.Loan t gift).1.Split, 0) else (⟨0, 0, 0⟩, 1)) else (⟨0, 0, 0⟩, 90)) := by
  have h : ref09_Gift n s t gift = ref09_Gift_j1 n s t gift (if okS s then (if inR t 0 9999 && inR gift 0 9999 then 0 else 1) else 90) := by
    unfold ref09_Gift
    rw [IsCents_eq, IsCents_eq]
    simp only [Option.bind_some]
    rw [rask_eq (by omega), rask_eq (by omega)]
    cases inR t 0 9999 <;> cases inR gift 0 9999 <;> simp
  rw [h]
  unfold ref09_Gift_j1
  by_cases hs : okS s = true
  · obtain ⟨h5, hok, hlo⟩ := (okS_iff _).1 hs
    by_cases ht : (inR t 0 9999 && inR gift 0 9999) = true
    · have ht2 := ht
      simp only [Bool.and_eq_true, inR_iff] at ht2
      simp only [hs, ht, if_true, bne_self_eq_false, Bool.false_eq_true, if_false]
      rw [Gone_eq hok (by omega) (by omega) hlo ht2.1 (by omega)]
      rfl
    · simp [hs, ht]
  · simp [hs]
theorem rWeek_eq {n : Nat} (hn : 10 ≤ n) (s : Share) (t : Int) :
    ref09_Week n s t = some (if okS s then (if inR t 0 9999 then ((setl s.Clauses s.Loan t 0).1.Split, 0) else (⟨0, 0, 0⟩, 1)) else (⟨0, 0, 0⟩, 90)) := by
  unfold ref09_Week
  rw [IsCents_eq]
  simp only [Option.bind_some]
  rw [rask_eq (by omega)]
  simp only [Option.bind_some]
  by_cases hs : okS s = true
  · obtain ⟨h5, hok, hlo⟩ := (okS_iff _).1 hs
    by_cases ht : inR t 0 9999 = true
    · have ht2 := inR_iff.1 ht
      simp only [hs, ht, if_true, bne_self_eq_false, Bool.false_eq_true, if_false]
      rw [Gone_eq hok (by omega) (by omega) hlo ht2 (by omega)]
      rfl
    · simp [hs, ht]
  · simp [hs]
theorem rGives_eq {n : Nat} (hn : 10 ≤ n) (s : Share) (t i : Int) (hb : s.Clauses.length < 1000) :
    ref09_Gives n s t i = some (if okS s then (if inR t 0 9999 && inR i 0 ((s.Clauses.length : Int) - 1) then ((gave s t)[i.toNat]?.getD 0, 0) else (0, 1)) else (0, 90)) := by
  have h : ref09_Gives n s t i = ref09_Gives_j1 n s t i (if okS s then (if inR t 0 9999 && inR i 0 ((s.Clauses.length : Int) - 1) then 0 else 1) else 90) := by
    unfold ref09_Gives
    rw [IsCents_eq, rIsClause_eq hb]
    simp only [Option.bind_some]
    rw [rask_eq (by omega), rask_eq (by omega)]
    cases inR t 0 9999 <;> simp
  rw [h]
  unfold ref09_Gives_j1
  by_cases hs : okS s = true
  · obtain ⟨h5, hok, hlo⟩ := (okS_iff _).1 hs
    by_cases ht : (inR t 0 9999 && inR i 0 ((s.Clauses.length : Int) - 1)) = true
    · have ht2 := ht
      simp only [Bool.and_eq_true, inR_iff] at ht2
      simp only [hs, ht, if_true, bne_self_eq_false, Bool.false_eq_true, if_false]
      rw [Gone_eq hok (by omega) (by omega) hlo ht2.1 (by omega)]
      simp only [Option.bind_some]
      have hl := gave_len s t
      have : idx (gave s t) i = some ((gave s t)[i.toNat]?.getD 0) := by
        unfold idx
        rw [if_pos ht2.2.1, List.getElem?_eq_getElem (by omega)]
        rfl
      change (idx (gave s t) i).bind _ = _
      rw [this]
      rfl
    · simp [hs, ht]
  · simp [hs]
/-- All clauses but one. -/
def cutl (l : List Clause) (i : Nat) : List Clause := l.take i ++ l.drop (i + 1)
theorem cutl_mem {l : List Clause} {i : Nat} {c : Clause} (h : c ∈ cutl l i) : c ∈ l := by
  rcases List.mem_append.1 h with h | h
  · exact List.mem_of_mem_take h
  · exact List.mem_of_mem_drop h
theorem cutl_len (l : List Clause) (i : Nat) : (cutl l i).length ≤ l.length := by
  unfold cutl
  simp
  omega
theorem Less_eq {n : Nat} {s : Share} {i : Nat} (hs : s.Clauses.length < 1000) (hn : 1000 < n) : ref09_Less n s i = some ⟨cutl s.Clauses i, s.Loan⟩ := by
  have key : ∀ (l pre : List Clause) (m : Nat) (out : List Clause), s.Clauses = pre ++ l → l.length < m → out.length ≤ pre.length →
      ref09_Less_l1 s i m (pre.length : Int) out = some ⟨out ++ (if i < pre.length then l else l.take (i - pre.length) ++ l.drop (i - pre.length + 1)), s.Loan⟩ := by
    intro l
    induction l with
    | nil =>
      intro pre m out he hm ho
      obtain ⟨m, rfl⟩ : ∃ k, m = k + 1 := ⟨m - 1, by omega⟩
      simp only [ref09_Less_l1, ref09_Less_l1_b, ref09_Less_j1]
      rw [if_neg (by simp [he])]
      simp
    | cons c l ih =>
      intro pre m out he hm ho
      simp at hm
      have hl : s.Clauses.length = pre.length + (l.length + 1) := by simp [he]
      obtain ⟨m, rfl⟩ : ∃ k, m = k + 1 := ⟨m - 1, by omega⟩
      have hc : (((pre ++ [c]).length : Nat) : Int) = (pre.length : Int) + 1 := by simp
      have hc' : (pre ++ [c]).length = pre.length + 1 := by simp
      simp only [ref09_Less_l1, ref09_Less_l1_b, ref09_Less_j2]
      rw [if_pos (by simp; omega), w64_id (by omega) (by omega)]
      by_cases e : (pre.length : Int) = i
      · have e' : pre.length = i := by omega
        rw [if_neg (by simp [e])]
        have h := ih (pre ++ [c]) m out (by simp [he]) (by omega) (by omega)
        rw [hc] at h
        rw [h, hc', if_pos (by omega), if_neg (by omega), e']
        simp
      · rw [if_pos (by simpa using e), show idx s.Clauses (pre.length : Int) = some c by rw [he, idx_mid]]
        simp only [Option.bind_some]
        rw [app_ok (by simp; omega)]
        simp only [Option.bind_some]
        have h := ih (pre ++ [c]) m (out ++ [c]) (by simp [he]) (by omega) (by simp; omega)
        rw [hc] at h
        rw [h, hc']
        by_cases h1 : i < pre.length
        · rw [if_pos (by omega), if_pos h1]
          simp
        · rw [if_neg (by omega), if_neg h1]
          obtain ⟨k, hk⟩ : ∃ k, i - pre.length = k + 1 := ⟨i - pre.length - 1, by omega⟩
          rw [show i - (pre.length + 1) = k by omega, hk]
          simp
  have h := key s.Clauses [] n [] rfl (by omega) (by simp)
  unfold ref09_Less
  simp only [List.length_nil, List.nil_append, Nat.not_lt_zero, if_false, Nat.sub_zero] at h
  exact h
/-- By how much more the owner gets without a clause. -/
def wout (s : Share) (t : Int) (i : Nat) : Int := (setl (cutl s.Clauses i) s.Loan t 0).1.Split.Owner - (setl s.Clauses s.Loan t 0).1.Split.Owner
theorem own_w64 {l k : List Clause} {loan t : Int} (hl : ∀ c ∈ l, okC c = true) (hk : ∀ c ∈ k, okC c = true) (ho : 0 ≤ loan) (ht : 0 ≤ t ∧ t ≤ 9999) : w64 ((setl l loan t 0).1.Split.Owner - (setl k loan t 0).1.Split.Owner) = (setl l loan t 0).1.Split.Owner - (setl k loan t 0).1.Split.Owner := by
  have a := setl_wb (t := t) (gift := 0) hl ho ht.1 (Int.le_refl 0)
  have b := setl_wb (t := t) (gift := 0) hk ho ht.1 (Int.le_refl 0)
  have := a.op; have := a.ow; have := a.rest; have := a.sum
  have := b.op; have := b.ow; have := b.rest; have := b.sum
  exact w64_id (by omega) (by omega)
theorem Without_eq {n : Nat} (hn : 2000 ≤ n) (s : Share) (t i : Int) (hb : s.Clauses.length < 1000) :
    shares_Without n s t i = some (if okS s then (if inR t 0 9999 && inR i 0 ((s.Clauses.length : Int) - 1) then (wout s t i.toNat, 0) else (0, 1)) else (0, 90)) := by
  have h : shares_Without n s t i = shares_Without_j1 n s t i (if okS s then (if inR t 0 9999 && inR i 0 ((s.Clauses.length : Int) - 1) then 0 else 1) else 90) := by
    unfold shares_Without
    rw [isCents_eq, isClause_eq hb]
    simp only [Option.bind_some]
    rw [ask_eq (by omega), ask_eq (by omega)]
    cases inR t 0 9999 <;> simp
  rw [h]
  unfold shares_Without_j1
  by_cases hs : okS s = true
  · obtain ⟨h5, hok, hlo⟩ := (okS_iff _).1 hs
    by_cases ht : (inR t 0 9999 && inR i 0 ((s.Clauses.length : Int) - 1)) = true
    · have ht2 := ht
      simp only [Bool.and_eq_true, inR_iff] at ht2
      simp only [hs, ht, if_true, bne_self_eq_false, Bool.false_eq_true, if_false]
      unfold slices_Clone_apiClause
      rw [app_ok (by simp; omega)]
      simp only [Option.bind_some, List.nil_append]
      rw [w64_id (x := i + 1) (by omega) (by omega)]
      unfold delL
      rw [if_pos (by omega)]
      simp only [Option.bind_some]
      have e : s.Clauses.take i.toNat ++ s.Clauses.drop (i + 1).toNat = cutl s.Clauses i.toNat := by
        unfold cutl
        rw [show (i + 1).toNat = i.toNat + 1 by omega]
      have hc := cutl_len s.Clauses i.toNat
      rw [e, owners_eq (fun c h => hok c (cutl_mem h)) (by omega) (by omega) hlo ht2.1, owners_eq hok (by omega) (by omega) hlo ht2.1]
      simp only [Option.bind_some]
      rw [own_w64 (fun c h => hok c (cutl_mem h)) hok hlo.1 ht2.1]
      rfl
    · simp [hs, ht]
  · simp [hs]
theorem rWithout_eq {n : Nat} (hn : 2000 ≤ n) (s : Share) (t i : Int) (hb : s.Clauses.length < 1000) :
    ref09_Without n s t i = some (if okS s then (if inR t 0 9999 && inR i 0 ((s.Clauses.length : Int) - 1) then (wout s t i.toNat, 0) else (0, 1)) else (0, 90)) := by
  have h : ref09_Without n s t i = ref09_Without_j1 n s t i (if okS s then (if inR t 0 9999 && inR i 0 ((s.Clauses.length : Int) - 1) then 0 else 1) else 90) := by
    unfold ref09_Without
    rw [IsCents_eq, rIsClause_eq hb]
    simp only [Option.bind_some]
    rw [rask_eq (by omega), rask_eq (by omega)]
    cases inR t 0 9999 <;> simp
  rw [h]
  unfold ref09_Without_j1
  by_cases hs : okS s = true
  · obtain ⟨h5, hok, hlo⟩ := (okS_iff _).1 hs
    by_cases ht : (inR t 0 9999 && inR i 0 ((s.Clauses.length : Int) - 1)) = true
    · have ht2 := ht
      simp only [Bool.and_eq_true, inR_iff] at ht2
      simp only [hs, ht, if_true, bne_self_eq_false, Bool.false_eq_true, if_false]
      have hc := cutl_len s.Clauses i.toNat
      obtain ⟨k, rfl⟩ : ∃ k : Nat, i = k := ⟨i.toNat, by omega⟩
      simp only [Int.toNat_natCast] at hc ⊢
      rw [Gone_eq hok (by omega) (by omega) hlo ht2.1 (by omega), Less_eq hb (by omega)]
      simp only [Option.bind_some]
      rw [Gone_eq (s := ⟨cutl s.Clauses k, s.Loan⟩) (fun c h => hok c (cutl_mem h)) (by simp only; omega) (by simp only; omega) hlo ht2.1 (by omega)]
      simp only [Option.bind_some]
      rw [own_w64 (fun c h => hok c (cutl_mem h)) hok hlo.1 ht2.1]
      rfl
    · simp [hs, ht]
  · simp [hs]
theorem law_SharesWeek (s : Share) (x : Ask_) : law09_SharesWeek 20000 s x = some true := by
  unfold law09_SharesWeek
  rw [far_eq]
  simp only [Option.bind_some]
  by_cases hf : (s.Clauses.length : Int) > 40
  · rw [if_pos (by simpa using hf), works_eq]
    rfl
  · rw [if_neg (by simpa using hf), Copy_eq s (by omega)]
    simp only [Option.bind_some]
    rw [Check_eq (by omega), rCheck_eq (by omega), Week_eq (by omega), rWeek_eq (by omega), Gift_eq (by omega), rGift_eq (by omega)]
    simp only [Option.bind_some, bne_self_eq_false, Bool.false_eq_true, if_false, beq_self_eq_true, Bool.and_self, Bool.not_true]
    unfold law09_SharesWeek_j1
    simp only [Bool.false_eq_true, if_false]
    rw [Gives_eq (by omega) s _ _ (by omega), rGives_eq (by omega) s _ _ (by omega), Without_eq (by omega) s _ _ (by omega), rWithout_eq (by omega) s _ _ (by omega)]
    simp only [Option.bind_some, beq_self_eq_true, if_true]
    rw [same_refl s (by omega) (by omega), works_eq]
    simp [law09_SharesWeek_j2]
end Go.Law
