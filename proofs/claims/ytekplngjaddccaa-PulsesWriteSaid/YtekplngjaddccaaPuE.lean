/-
  Plain laws about the functions of pulses: the law PulsesWrite.
  Conditions: none.
-/
import Derived.Test.YtekplngjaddccaaPuD
set_option linter.all false
namespace Go.Law
open Go Go.AM

theorem wr_props (p : Pulse) (hv : valid p = true) : ∀ (l : List Int) (out : List Int) (t : Int), (∀ x, x ∈ l → isSel p x = true) → t ≤ (wr p l out t).2 ∧ ((wr p l out t).1 = [] → (wr p l out t).2 = t)
  | [], out, t, _ => by simp [wr]
  | x :: l, out, t, hs => by
    obtain ⟨v1, v2, v3, v4, v5, v6, _⟩ := valid_iff hv
    obtain ⟨b1, b2, b3, b4, b5⟩ := sel_bounds hv (hs x (by simp))
    simp only [wr]
    have t1 := adds_time p.Pitch (by omega) (x / p.Numbers + 1).toNat p.Pause out t (by omega) (by omega)
    have l1 := adds_len p.Pitch (x / p.Numbers + 1).toNat p.Pause out t
    generalize adds p.Pitch (x / p.Numbers + 1).toNat p.Pause out t = s1 at t1 l1 ⊢
    have t2 := adds_time p.Pitch (by omega) (x % p.Numbers + 1).toNat p.Gap s1.1 s1.2 (by omega) (by omega)
    have l2 := adds_len p.Pitch (x % p.Numbers + 1).toNat p.Gap s1.1 s1.2
    generalize adds p.Pitch (x % p.Numbers + 1).toNat p.Gap s1.1 s1.2 = s2 at t2 l2 ⊢
    have h := wr_props p hv l s2.1 s2.2 (fun y hy => hs y (by simp [hy]))
    refine ⟨by omega, fun e => ?_⟩
    have : ∀ (l : List Int) (out : List Int) (t : Int), out.length ≤ (wr p l out t).1.length := by
      intro l
      induction l with
      | nil => intro out t; simp [wr]
      | cons x l ih =>
        intro out t
        simp only [wr]
        refine Nat.le_trans ?_ (ih _ _)
        rw [adds_len, adds_len]
        omega
    have h3 := this l s2.1 s2.2
    rw [e] at h3
    simp at h3
    rw [h3] at l2
    simp at l2
    omega
theorem isTime_eq (t : Int) : pulses_isTime t = some (inR t 0 99999) := by simp [pulses_isTime, within_eq]
theorem c1_eq (p : Pulse) (x : Int) : pulses_Write_c1 x (⟨p⟩ : Train_) = some (!isSel p x) := by simp [pulses_Write_c1, pulses_train_isSelection, within_eq, isSel]
theorem any_all (l : List Int) (f : Int → Bool) : l.any (fun x => !f x) = !l.all f := by
  induction l with
  | nil => rfl
  | cons a l ih => simp only [List.any_cons, List.all_cons, ih, Bool.not_and]
theorem j2_eq (out : List Int) (t : Int) (h0 : 0 ≤ t) (he : out = [] → t ≤ 99999) : ∃ r, pulses_Write_j2 out t = some r ∧ ref13_Write_j2 out t = some r ∧ r.1.length ≤ 1000 := by
  unfold pulses_Write_j2 ref13_Write_j2
  simp only [isTime_eq, Option.bind_some, pulses_Write_j3, ref13_Write_j3]
  by_cases h24 : out.length ≤ 24
  · rw [if_neg (show ¬ decide ((out.length : Int) > 24) = true by simp; omega), if_neg (show ¬ decide ((out.length : Int) > 24) = true by simp; omega)]
    by_cases ht : t ≤ 99999
    · have : inR t 0 99999 = true := inR_iff.2 ⟨h0, ht⟩
      rw [this, if_neg (by simp)]
      refine ⟨(out, 0), rfl, ?_, by simp; omega⟩
      split
      · rw [if_neg (by simpa using ht)]
      · rfl
    · have : inR t 0 99999 = false := by
        cases hh : inR t 0 99999 with
        | false => rfl
        | true => exact (ht (inR_iff.1 hh).2).elim
      have hne : out ≠ [] := fun e => ht (he e)
      rw [this, if_pos (by simp)]
      refine ⟨([], 131), rfl, ?_, by simp⟩
      rw [if_pos (by have := List.length_pos_iff.2 hne; simp; omega), if_pos (by simp; omega)]
  · rw [if_pos (show decide ((out.length : Int) > 24) = true by simp; omega), if_pos (show decide ((out.length : Int) > 24) = true by simp; omega)]
    exact ⟨([], 131), rfl, rfl, by simp⟩
theorem Write_eq {n : Nat} (p : Pulse) (l : List Int) (t : Int) (hs : p.Times.length ≤ 40) (hl : l.length ≤ 40) (hn : 1000 ≤ n) : ∃ r, pulses_Write n p l t = some r ∧ ref13_Write n p l t = some r ∧ r.1.length ≤ 1000 := by
  unfold pulses_Write ref13_Write
  rw [Check_eq p (by omega) (by omega) (by omega), rCheck_eq p (by omega) (by omega)]
  simp only [Option.bind_some]
  cases hv : valid p with
  | false => exact ⟨([], 130), by simp, by simp, by simp⟩
  | true =>
    rw [IsList_eq p l (by omega) (by omega)]
    simp only [cond_true, bne_self_eq_false, Bool.false_eq_true, if_false, Option.bind_some, rwithin_eq, isTime_eq]
    by_cases h24 : l.length ≤ 24
    · rw [if_neg (show ¬ decide ((l.length : Int) > 24) = true by simp; omega)]
      simp only [h24, decide_true, Bool.and_true]
      cases ht : inR t 0 99999 with
      | false =>
        refine ⟨([], 1), by simp [pulses_Write_j1], ?_, by simp⟩
        cases l.all (isSel p) <;> simp [ref13_Write_j1]
      | true =>
        rw [if_neg (by simp), Contains_any _ (fun x => !isSel p x) (fun x => by rw [c1_eq]; rfl) l (by omega) (by omega), any_all]
        simp only [Option.bind_some]
        cases ha : l.all (isSel p) with
        | false => exact ⟨([], 1), by simp [pulses_Write_j1], by simp [ref13_Write_j1], by simp⟩
        | true =>
          rw [if_neg (by simp)]
          simp only [pulses_Write_j1, ref13_Write_j1]
          have hsel : ∀ x, x ∈ l → isSel p x = true := fun x hx => List.all_eq_true.1 ha x hx
          have ht' := inR_iff.1 ht
          have e1 := pWrite_l (n := n) p hv (by omega) l (by omega) hsel l [] n [] t rfl (by omega) (by simp) (by omega) (by simp; omega)
          have e2 := rWrite_l (n := n) p hv (by omega) l (by omega) hsel l [] n [] t rfl (by omega) (by simp) (by simp) (by omega) (by simp; omega)
          simp only [Bool.not_true, Bool.false_eq_true, if_false]
          rw [show pulses_Write_l1 n p l n 0 [] t = _ from e1, show ref13_Write_l1 n p l n [] t 0 = _ from e2]
          have hw := wr_props p hv l [] t hsel
          exact j2_eq _ _ (by omega) (fun e => by rw [hw.2 e]; exact ht'.2)
    · rw [if_pos (show decide ((l.length : Int) > 24) = true by simp; omega)]
      exact ⟨([], 1), by simp [pulses_Write_j1], by simp [h24, ref13_Write_j1], by simp⟩
theorem law_PulsesWrite (p : Pulse) (l : List Int) (t : Int) : law13_PulsesWrite 20000 p l t = some true := by
  unfold law13_PulsesWrite
  by_cases h1 : p.Times.length ≤ 40
  · rw [if_neg (show ¬ decide ((p.Times.length : Int) > 40) = true by simp; omega)]
    by_cases h2 : l.length ≤ 40
    · rw [show decide ((l.length : Int) > 40) = false by simp; omega]
      unfold law13_PulsesWrite_j1
      rw [if_neg (by simp), Copy_eq p (by omega)]
      simp only [Option.bind_some]
      rw [app_ok (by simp; omega)]
      simp only [Option.bind_some, List.nil_append]
      rw [Check_eq p (by omega) (by omega) (by omega), rCheck_eq p (by omega) (by omega)]
      simp only [Option.bind_some]
      rw [if_neg (by simp)]
      obtain ⟨r, e1, e2, e3⟩ := Write_eq (n := 20000) p l t h1 h2 (by omega)
      rw [e1, e2]
      simp only [Option.bind_some]
      rw [SameInts_self r.1 (by omega) (by omega)]
      simp only [Option.bind_some]
      simp [same_self p (show p.Times.length < 1048576 by omega) (show p.Times.length < 20000 by omega), SameInts_self l (show l.length < 1048576 by omega) (show l.length < 20000 by omega), works_eq, law13_PulsesWrite_j2]
    · rw [show decide ((l.length : Int) > 40) = true by simp; omega]
      simp [law13_PulsesWrite_j1, works_eq]
  · rw [if_pos (show decide ((p.Times.length : Int) > 40) = true by simp; omega)]
    simp [law13_PulsesWrite_j1, works_eq]
end Go.Law
