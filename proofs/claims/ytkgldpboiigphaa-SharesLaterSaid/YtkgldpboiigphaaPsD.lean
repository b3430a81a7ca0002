/-
  Plain laws about the functions of shares: greater takings.
  Conditions: none.
-/
import Derived.Test.YtkgldpboiigphaaPsC
set_option linter.all false
namespace Go.Law
open Go Go.AM
def isRound (c : Clause) : Bool := c.Kind == 3 || c.Kind == 4
def rounds : List Clause → Nat
  | [] => 0
  | c :: l => (if isRound c then 1 else 0) + rounds l
/-- Two weeks before a clause that rounds. -/
def RA (w v : Week_) : Prop := w.rest ≤ v.rest ∧ w.Split.Owner ≤ v.Split.Owner ∧ v.owed ≤ w.owed
/-- Behind it. -/
def RB (w v : Week_) : Prop :=
  (w.Split.Owner ≤ v.Split.Owner ∧ w.Split.Owner + w.rest ≤ v.Split.Owner + v.rest ∧ v.owed ≤ w.owed) ∨ w.Split.Owner + w.rest ≤ v.Split.Owner
theorem RA.toB {w v : Week_} (h : RA w v) : RB w v := .inl ⟨h.2.1, by have := h.1; have := h.2.1; omega, h.2.2⟩
theorem mul_le_l {a x y : Int} (ha : 0 ≤ a) (h : x ≤ y) : a * x ≤ a * y := Int.mul_le_mul_of_nonneg_left h ha
theorem step_round {c : Clause} {w v : Week_} {t t' loan : Int} (hc : okC c = true) (hw : WB t loan w) (hv : WB t' loan v) (h : RA w v) : RB (stepW c w) (stepW c v) := by
  obtain ⟨h1, h2, h3, h4, h5, h6, h7, h8⟩ := hw
  obtain ⟨i1, i2, i3, i4, i5, i6, i7, i8⟩ := hv
  obtain ⟨a1, a2, a3⟩ := h
  obtain ⟨hk, hce, hp, hmo⟩ := (okC_iff c).1 hc
  refine .inl ?_
  unfold stepW given
  by_cases k1 : c.Kind = 1
  · simp only [k1, if_true]; omega
  by_cases k2 : c.Kind = 2
  · have e : ¬ (2 : Int) = 1 := by decide
    simp only [k2, if_true, e, if_false]
    omega
  simp only [k1, k2, if_false]
  by_cases k3 : c.Kind = 3
  · simp only [k3, if_true]
    have := mul_le_l hp.1 a1
    omega
  by_cases k4 : c.Kind = 4
  · have e : ¬ (4 : Int) = 3 := by decide
    simp only [k4, if_true, e, if_false]
    have := mul_le_l hp.1 (show min w.rest c.Cents ≤ min v.rest c.Cents by omega)
    have := mul_le_l hmo.1 (show w.rest - min w.rest c.Cents ≤ v.rest - min v.rest c.Cents by omega)
    omega
  simp only [k3, k4, if_false]
  omega
theorem step_RA {c : Clause} {w v : Week_} {t t' loan : Int} (hc : okC c = true) (hr : isRound c = false) (hw : WB t loan w) (hv : WB t' loan v) (h : RA w v) : RA (stepW c w) (stepW c v) := by
  obtain ⟨h1, h2, h3, h4, h5, h6, h7, h8⟩ := hw
  obtain ⟨i1, i2, i3, i4, i5, i6, i7, i8⟩ := hv
  obtain ⟨a1, a2, a3⟩ := h
  obtain ⟨hk, hce, hp, hmo⟩ := (okC_iff c).1 hc
  simp [isRound] at hr
  unfold RA stepW given
  by_cases k1 : c.Kind = 1
  · simp only [k1, if_true]; omega
  by_cases k2 : c.Kind = 2
  · have e : ¬ (2 : Int) = 1 := by decide
    simp only [k2, if_true, e, if_false]
    omega
  simp only [k1, k2, hr.1, hr.2, if_false]
  omega
theorem step_RB {c : Clause} {w v : Week_} {t t' loan : Int} (hc : okC c = true) (hr : isRound c = false) (hw : WB t loan w) (hv : WB t' loan v) (h : RB w v) : RB (stepW c w) (stepW c v) := by
  obtain ⟨h1, h2, h3, h4, h5, h6, h7, h8⟩ := hw
  obtain ⟨i1, i2, i3, i4, i5, i6, i7, i8⟩ := hv
  obtain ⟨hk, hce, hp, hmo⟩ := (okC_iff c).1 hc
  simp [isRound] at hr
  unfold RB stepW given at *
  by_cases k1 : c.Kind = 1
  · simp only [k1, if_true]; omega
  by_cases k2 : c.Kind = 2
  · have e : ¬ (2 : Int) = 1 := by decide
    simp only [k2, if_true, e, if_false]
    omega
  simp only [k1, k2, hr.1, hr.2, if_false]
  omega
theorem run_RB {t t' loan : Int} : ∀ (l : List Clause) (w v : Week_), (∀ c ∈ l, okC c = true) → rounds l = 0 → WB t loan w → WB t' loan v → RB w v → RB (runW l w).1 (runW l v).1
  | [], _, _, _, _, _, _, h => h
  | c :: l, w, v, hok, hr, hw, hv, h => by
    have hc := hok c (List.mem_cons_self ..)
    have hr1 : isRound c = false := by
      cases hi : isRound c with
      | false => rfl
      | true => rw [rounds, hi, if_pos rfl] at hr; omega
    rw [rounds, hr1] at hr
    exact run_RB l (stepW c w) (stepW c v) (fun d hd => hok d (List.mem_cons_of_mem _ hd)) (by simpa using hr) (stepW_wb hc hw) (stepW_wb hc hv) (step_RB hc hr1 hw hv h)
theorem run_RA {t t' loan : Int} : ∀ (l : List Clause) (w v : Week_), (∀ c ∈ l, okC c = true) → rounds l ≤ 1 → WB t loan w → WB t' loan v → RA w v → RB (runW l w).1 (runW l v).1
  | [], _, _, _, _, _, _, h => h.toB
  | c :: l, w, v, hok, hr, hw, hv, h => by
    have hc := hok c (List.mem_cons_self ..)
    have hok' : ∀ d ∈ l, okC d = true := fun d hd => hok d (List.mem_cons_of_mem _ hd)
    cases hi : isRound c with
    | true =>
      rw [rounds, hi] at hr
      simp at hr
      exact run_RB l (stepW c w) (stepW c v) hok' (by omega) (stepW_wb hc hw) (stepW_wb hc hv) (step_round hc hw hv h)
    | false =>
      rw [rounds, hi] at hr
      simp at hr
      exact run_RA l (stepW c w) (stepW c v) hok' hr (stepW_wb hc hw) (stepW_wb hc hv) (step_RA hc hi hw hv h)
theorem greater {s : Share} {t t' : Int} (hs : okS s = true) (ht : 0 ≤ t) (h : t ≤ t') (hr : rounds s.Clauses ≤ 1) : ownT s t ≤ ownT s t' := by
  obtain ⟨h5, hok, hlo⟩ := (okS_iff _).1 hs
  have w1 := startW_wb (gift := 0) hlo.1 ht (by omega)
  have w2 := startW_wb (gift := 0) hlo.1 (show 0 ≤ t' by omega) (by omega)
  have hb := run_RA s.Clauses (startW s.Loan t 0) (startW s.Loan t' 0) hok hr w1 w2 (by unfold RA startW; dsimp only; omega)
  have z1 := runW_wb hok w1
  have z2 := runW_wb hok w2
  obtain ⟨h1, h2, h3, h4, h5, h6, h7, h8⟩ := z1
  obtain ⟨i1, i2, i3, i4, i5, i6, i7, i8⟩ := z2
  unfold RB at hb
  change (finW (runW s.Clauses (startW s.Loan t 0)).1).Split.Owner ≤ (finW (runW s.Clauses (startW s.Loan t' 0)).1).Split.Owner
  unfold finW
  dsimp only
  omega
theorem isSplit_eq {l : List Clause} {loan t gift : Int} (hl : ∀ c ∈ l, okC c = true) (ho : 0 ≤ loan ∧ loan ≤ 9999) (ht : 0 ≤ t ∧ t ≤ 9999) (hg : 0 ≤ gift) : law09_isSplit (setl l loan t gift).1.Split t loan = some true := by
  have hw := setl_wb hl ho.1 ht.1 hg
  have hr : (setl l loan t gift).1.rest = 0 := rfl
  obtain ⟨h1, h2, h3, h4, h5, h6, h7, h8⟩ := hw
  generalize (setl l loan t gift).1 = w at *
  unfold law09_isSplit law09_isSplit_j1
  rw [if_pos (by simpa using h1), if_pos (by simp; omega), w64_id (by omega) (by omega), if_pos (by simp; omega), if_pos (by simpa using h3)]
  simp
  omega
theorem greater_l1 (s : Share) (t more : Int) (hs : s.Clauses.length ≤ 5) : ∀ (l pre : List Clause) (m r : Nat), s.Clauses = pre ++ l → l.length < m → r + l.length ≤ 1000 →
    law09_SharesGreater_l1 20000 s t more m (r : Int) (pre.length : Int) = law09_SharesGreater_j2 20000 s t more ((r + rounds l : Nat) : Int) := by
  intro l
  induction l with
  | nil =>
    intro pre m r he hm _
    obtain ⟨m, rfl⟩ : ∃ k, m = k + 1 := ⟨m - 1, by omega⟩
    simp only [law09_SharesGreater_l1, law09_SharesGreater_l1_b]
    rw [if_neg (by simp [he])]
    rfl
  | cons c l ih =>
    intro pre m r he hm hb
    simp at hm hb
    have hl : s.Clauses.length = pre.length + (l.length + 1) := by simp [he]
    obtain ⟨m, rfl⟩ : ∃ k, m = k + 1 := ⟨m - 1, by omega⟩
    simp only [law09_SharesGreater_l1, law09_SharesGreater_l1_b]
    rw [if_pos (by simp; omega), show idx s.Clauses (pre.length : Int) = some c by rw [he, idx_mid]]
    simp only [Option.bind_some, law09_SharesGreater_j5, law09_SharesGreater_j4]
    rw [w64_id (x := (pre.length : Int) + 1) (by omega) (by omega), w64_id (x := (r : Int) + 1) (by omega) (by omega)]
    have h := fun r' hr' => ih (pre ++ [c]) m r' (by simp [he]) (by omega) hr'
    have c1 : (((pre ++ [c]).length : Nat) : Int) = (pre.length : Int) + 1 := by simp
    rw [c1] at h
    have c2 : (r : Int) + 1 = ((r + 1 : Nat) : Int) := by omega
    rw [c2, rounds]
    by_cases k3 : c.Kind = 3
    · rw [if_pos (by simp [k3]), if_pos trivial, h (r + 1) (by omega), show isRound c = true by simp [isRound, k3], if_pos rfl]
      congr 2
      omega
    · rw [if_neg (by simp [k3])]
      by_cases k4 : c.Kind = 4
      · rw [if_pos (by simp [k4]), h (r + 1) (by omega), show isRound c = true by simp [isRound, k4], if_pos rfl]
        congr 2
        omega
      · rw [if_neg (by simp [k4]), h r (by omega), show isRound c = false by simp [isRound, k3, k4], if_neg (by decide)]
        congr 2
        omega
theorem law_SharesGreater (s : Share) (t more : Int) : law09_SharesGreater 20000 s t more = some true := by
  have hskip : law09_SharesGreater_j1 20000 s t more true = some true := by
    unfold law09_SharesGreater_j1
    rw [if_pos rfl, works_eq]
    rfl
  unfold law09_SharesGreater
  rw [isShare_eq (by omega)]
  simp only [Option.bind_some, IsCents_eq]
  by_cases hs : okS s = true
  case neg => simp [hs, hskip]
  by_cases h1 : inR t 0 9999 = true
  case neg => simp [hs, h1, hskip]
  by_cases h2 : inR more 0 9999 = true
  case neg => simp [hs, h1, h2, hskip]
  have b1 := inR_iff.1 h1
  have b2 := inR_iff.1 h2
  have ew : w64 (t + more) = t + more := w64_id (by omega) (by omega)
  rw [ew]
  by_cases h3 : inR (t + more) 0 9999 = true
  case neg => simp [hs, h1, h2, h3, hskip]
  have b3 := inR_iff.1 h3
  simp only [hs, h1, h2, h3, Bool.not_true, Bool.false_eq_true, if_false]
  obtain ⟨h5, hok, hlo⟩ := (okS_iff _).1 hs
  unfold law09_SharesGreater_j1
  rw [if_neg (by decide)]
  have h := greater_l1 s t more h5 s.Clauses [] 20000 0 rfl (by omega) (by omega)
  have h : law09_SharesGreater_l1 20000 s t more 20000 0 0 = _ := h
  rw [h]
  unfold law09_SharesGreater_j2 law09_SharesGreater_j3
  rw [ew, Week_eq (by omega), Week_eq (by omega)]
  simp only [hs, h1, h3, if_true, Option.bind_some]
  rw [if_pos (by rfl), if_pos (by rfl), isSplit_eq hok hlo b1 (by omega), isSplit_eq hok hlo b3 (by omega)]
  simp only [Option.bind_some, if_true]
  by_cases hr : rounds s.Clauses > 1
  · rw [if_pos (by simp; omega), works_eq]
    rfl
  · have hg := greater hs b1.1 (show t ≤ t + more by omega) (by omega)
    rw [if_neg (by simp; omega), if_pos (decide_eq_true (show (setl s.Clauses s.Loan (t + more) 0).1.Split.Owner ≥ (setl s.Clauses s.Loan t 0).1.Split.Owner from hg)), works_eq]
    rfl
end Go.Law
