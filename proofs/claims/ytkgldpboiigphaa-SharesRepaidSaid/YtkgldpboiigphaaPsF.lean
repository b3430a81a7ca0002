/-
  Plain laws about the functions of shares: each cent.
  Conditions: none.
-/
import Derived.Test.YtkgldpboiigphaaPsD
set_option linter.all false
namespace Go.Law
open Go Go.AM
theorem isClause_eq {s : Share} {i : Int} (hs : s.Clauses.length < 1000) : shares_isClause s i = some (inR i 0 ((s.Clauses.length : Int) - 1)) := by
  unfold shares_isClause
  rw [w64_id (by omega) (by omega), within_eq]
  rfl
/-- What Gives returns. -/
def gave (s : Share) (t : Int) : List Int := (setl s.Clauses s.Loan t 0).2
theorem gave_len (s : Share) (t : Int) : (gave s t).length = s.Clauses.length := runW_len _ _
theorem Gives_eq {n : Nat} (hn : 10 ≤ n) (s : Share) (t i : Int) (hb : s.Clauses.length < 1000) :
    shares_Gives n s t i = some (if okS s then (if inR t 0 9999 && inR i 0 ((s.Clauses.length : Int) - 1) then ((gave s t)[i.toNat]?.getD 0, 0) else (0, 1)) else (0, 90)) := by
  have h : shares_Gives n s t i = shares_Gives_j1 n s t i (if okS s then (if inR t 0 9999 && inR i 0 ((s.Clauses.length : Int) - 1) then 0 else 1) else 90) := by
    unfold shares_Gives
    rw [isCents_eq, isClause_eq hb]
    simp only [Option.bind_some]
    rw [ask_eq (by omega), ask_eq (by omega)]
    cases inR t 0 9999 <;> simp
  rw [h]
  unfold shares_Gives_j1
  by_cases hs : okS s = true
  · obtain ⟨h5, hok, hlo⟩ := (okS_iff _).1 hs
    by_cases ht : (inR t 0 9999 && inR i 0 ((s.Clauses.length : Int) - 1)) = true
    · have ht2 := ht
      simp only [Bool.and_eq_true, inR_iff] at ht2
      simp only [hs, ht, if_true, bne_self_eq_false, Bool.false_eq_true, if_false]
      rw [settle_eq hok (by omega) (by omega) hlo ht2.1 (by omega)]
      simp only [Option.bind_some]
      have hl := gave_len s t
      have : idx (gave s t) i = some ((gave s t)[i.toNat]?.getD 0) := by
        unfold idx
        rw [if_pos ht2.2.1, List.getElem?_eq_getElem (by omega)]
        rfl
      change (idx (gave s t) i).bind _ = _
      rw [this]
      rfl
    · simp [hs, ht]
  · simp [hs]
theorem runW_ow {t loan : Int} : ∀ (l : List Clause) (w : Week_), (∀ c ∈ l, okC c = true) → WB t loan w → w.Split.Owner ≤ (runW l w).1.Split.Owner
  | [], _, _, _ => Int.le_refl _
  | c :: l, w, hok, hw => by
    have hc := hok c (List.mem_cons_self ..)
    have h := runW_ow l (stepW c w) (fun d hd => hok d (List.mem_cons_of_mem _ hd)) (stepW_wb hc hw)
    have g := given_le (got := w.Split.Owner) hc hw.rest hw.owed
    have : w.Split.Owner ≤ (stepW c w).Split.Owner := by
      unfold stepW
      dsimp only
      split
      · exact Int.le_refl _
      · split
        · exact Int.le_refl _
        · dsimp only; omega
    exact Int.le_trans this h
theorem cent_l1 {s : Share} {x : Ask_} (hs : okS s = true) (ht : inR x.Takings 0 9999 = true) (r4 : Split × Int) :
    ∀ (l pre : List Clause) (g1 : List Int) (m : Nat) (w : Week_), s.Clauses = pre ++ l → gave s x.Takings = g1 ++ (runW l w).2 → g1.length = pre.length → WB x.Takings s.Loan w → l.length < m →
      law09_SharesCent_l1 20000 s x r4 m (w.Split.Operator + w.Split.Owner) w.Split.Owner w.Split.Repaid (pre.length : Int) =
        law09_SharesCent_j3 20000 r4 (runW l w).1.Split.Owner (runW l w).1.Split.Repaid := by
  obtain ⟨h5, hok, hlo⟩ := (okS_iff _).1 hs
  have htt := inR_iff.1 ht
  intro l
  induction l with
  | nil =>
    intro pre g1 m w he hg hgl hw hm
    obtain ⟨m, rfl⟩ : ∃ k, m = k + 1 := ⟨m - 1, by omega⟩
    simp only [law09_SharesCent_l1, law09_SharesCent_l1_b]
    rw [if_neg (by simp [he])]
    rfl
  | cons c l ih =>
    intro pre g1 m w he hg hgl hw hm
    simp at hm
    have hl : s.Clauses.length = pre.length + (l.length + 1) := by simp [he]
    obtain ⟨m, rfl⟩ : ∃ k, m = k + 1 := ⟨m - 1, by omega⟩
    have hc := hok c (by simp [he])
    have hw' := stepW_wb hc hw
    obtain ⟨k1, k2, k3⟩ := given_le (got := w.Split.Owner) hc hw.rest hw.owed
    obtain ⟨hk, -⟩ := (okC_iff c).1 hc
    have hidx : idx s.Clauses (pre.length : Int) = some c := by rw [he, idx_mid]
    have hin : inR (pre.length : Int) 0 ((s.Clauses.length : Int) - 1) = true := inR_iff.2 ⟨by omega, by omega⟩
    have hge : (gave s x.Takings)[((pre.length : Int)).toNat]?.getD 0 = given c w.rest w.Split.Owner w.owed := by
      rw [hg, Int.toNat_natCast, ← hgl]
      simp [runW]
    have h := ih (pre ++ [c]) (g1 ++ [given c w.rest w.Split.Owner w.owed]) m (stepW c w) (by simp [he]) (by rw [hg]; simp [runW]) (by simp [hgl]) hw' (by omega)
    obtain ⟨h1, h2, h3, h4, h5', h6, h7, h8⟩ := hw
    simp only [law09_SharesCent_l1, law09_SharesCent_l1_b]
    rw [if_pos (by simp; omega), Gives_eq (by omega) s _ _ (by omega), hs, ht, hin]
    simp only [if_true, Bool.and_self, Option.bind_some]
    rw [hge]
    rw [if_neg (by decide)]
    have hr : runW (c :: l) w = ((runW l (stepW c w)).1, given c w.rest w.Split.Owner w.owed :: (runW l (stepW c w)).2) := rfl
    rw [hr]
    generalize hgn : given c w.rest w.Split.Owner w.owed = n at k1 k2 k3 h ⊢
    have hst : stepW c w = if c.Kind = 1 then ⟨⟨w.Split.Operator + n, w.Split.Owner, w.Split.Repaid⟩, w.rest - n, w.owed⟩
        else if c.Kind = 2 then ⟨⟨w.Split.Operator + n, w.Split.Owner, w.Split.Repaid + n⟩, w.rest - n, w.owed - n⟩
        else ⟨⟨w.Split.Operator, w.Split.Owner + n, w.Split.Repaid⟩, w.rest - n, w.owed⟩ := by unfold stepW; rw [hgn]
    rw [if_neg (by simp; omega), w64_id (by omega) (by omega)]
    rw [show decide (n > x.Takings - (w.Split.Operator + w.Split.Owner)) = false by simp; omega]
    simp only [law09_SharesCent_j6, law09_SharesCent_j7, law09_SharesCent_j5, hidx, Option.bind_some, ref09_IsOwners]
    rw [if_neg (by decide), w64_id (x := w.Split.Operator + w.Split.Owner + n) (by omega) (by omega), w64_id (x := (pre.length : Int) + 1) (by omega) (by omega)]
    have c1 : (((pre ++ [c]).length : Nat) : Int) = (pre.length : Int) + 1 := by simp
    rw [c1] at h
    rw [← h, hst]
    by_cases q1 : c.Kind = 1
    · rw [if_neg (by simp [q1]), if_neg (by simp [q1]), if_pos q1]
      dsimp only
      rw [show w.Split.Operator + w.Split.Owner + n = w.Split.Operator + n + w.Split.Owner by omega]
    · rw [if_neg q1]
      by_cases q2 : c.Kind = 2
      · have := k3 q2
        rw [if_neg (by simp [q2]), if_pos (by simp [q2]), if_pos q2, w64_id (by omega) (by omega)]
        dsimp only
        rw [show w.Split.Operator + w.Split.Owner + n = w.Split.Operator + n + w.Split.Owner by omega]
      · rw [if_neg q2, if_pos (by simp; omega), if_neg (by simp [q2]), w64_id (by omega) (by omega)]
        dsimp only
        rw [show w.Split.Operator + w.Split.Owner + n = w.Split.Operator + (w.Split.Owner + n) by omega]
theorem law_SharesCent (s : Share) (x : Ask_) : law09_SharesCent 20000 s x = some true := by
  have hskip : law09_SharesCent_j1 20000 s x true = some true := by
    unfold law09_SharesCent_j1
    rw [if_pos rfl, works_eq]
    rfl
  unfold law09_SharesCent
  rw [isShare_eq (by omega)]
  simp only [Option.bind_some, IsCents_eq]
  by_cases hs : okS s = true
  case neg => simp [hs, hskip]
  by_cases h1 : inR x.Takings 0 9999 = true
  case neg => simp [hs, h1, hskip]
  by_cases h2 : inR x.Gift 0 9999 = true
  case neg => simp [hs, h1, h2, hskip]
  have b1 := inR_iff.1 h1
  have b2 := inR_iff.1 h2
  obtain ⟨h5, hok, hlo⟩ := (okS_iff _).1 hs
  simp only [hs, h1, h2, Bool.not_true, Bool.false_eq_true, if_false]
  unfold law09_SharesCent_j1
  rw [if_neg (by decide), Week_eq (by omega), Gift_eq (by omega)]
  simp only [hs, h1, h2, if_true, Bool.and_self, Option.bind_some]
  rw [if_neg (by decide), if_neg (by decide), isSplit_eq hok hlo b1 (by omega), isSplit_eq hok hlo b1 b2.1]
  simp only [Option.bind_some, Bool.not_true, Bool.false_eq_true, if_false]
  have how : min x.Gift x.Takings ≤ (setl s.Clauses s.Loan x.Takings x.Gift).1.Split.Owner :=
    runW_ow s.Clauses (startW s.Loan x.Takings x.Gift) hok (startW_wb hlo.1 b1.1 b2.1)
  rw [show decide ((setl s.Clauses s.Loan x.Takings x.Gift).1.Split.Owner < min x.Gift x.Takings) = false by
    rw [decide_eq_false_iff_not]; omega]
  unfold law09_SharesCent_j2
  rw [if_neg (by decide)]
  have hz : startW s.Loan x.Takings 0 = ⟨⟨0, 0, 0⟩, x.Takings, s.Loan⟩ := by
    unfold startW
    rw [show min 0 x.Takings = 0 by omega, Int.sub_zero]
  have h := cent_l1 hs h1 ((setl s.Clauses s.Loan x.Takings 0).1.Split, 0) s.Clauses [] [] 20000 (startW s.Loan x.Takings 0) rfl rfl rfl (startW_wb hlo.1 b1.1 (by omega)) (by omega)
  rw [hz] at h
  have h : law09_SharesCent_l1 20000 s x ((setl s.Clauses s.Loan x.Takings 0).1.Split, 0) 20000 0 0 0 0 = _ := h
  rw [h, ← hz]
  unfold law09_SharesCent_j3 law09_SharesCent_j4
  have e : (setl s.Clauses s.Loan x.Takings 0).1.Split = (finW (runW s.Clauses (startW s.Loan x.Takings 0)).1).Split := rfl
  rw [e]
  unfold finW
  dsimp only
  rw [if_pos (by simp), if_pos (by simp), works_eq]
  rfl
end Go.Law
