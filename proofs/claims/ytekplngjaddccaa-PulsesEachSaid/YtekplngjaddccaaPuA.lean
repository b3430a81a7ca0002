/-
  Plain laws about the functions of pulses: is a train valid.
  Conditions: none.
-/
import Derived.Test.YtekplngjaddccaaMd
import Derived.Test.YtekplngjaddccaaPlA
set_option linter.all false
namespace Go.Law
open Go Go.AM

theorem works_eq : law13_works 20000 = some true := by decide +kernel

theorem Same_l (pa pb : List Int) (hp : pa.length = pb.length) : ∀ (l k : List Int) (m : Nat), l.length = k.length → (pa ++ l).length < 1048576 → l.length < m →
    ref01_SameInts_l1 (pa ++ l) (pb ++ k) m (pa.length : Int) = some (decide (l = k)) := by
  intro l
  induction l generalizing pa pb with
  | nil =>
    intro k m hk hs hm
    obtain ⟨m, rfl⟩ : ∃ k, m = k + 1 := ⟨m - 1, by omega⟩
    have : k = [] := List.eq_nil_of_length_eq_zero (by simpa using hk.symm)
    subst this
    simp [ref01_SameInts_l1, ref01_SameInts_l1_b, ref01_SameInts_j1]
  | cons x l ih =>
    intro k m hk hs hm
    obtain ⟨m, rfl⟩ : ∃ k, m = k + 1 := ⟨m - 1, by omega⟩
    cases k with
    | nil => simp at hk
    | cons y k =>
      simp at hk hs hm
      simp only [ref01_SameInts_l1, ref01_SameInts_l1_b]
      rw [if_pos (by simp <;> omega), idx_mid, show idx (pb ++ y :: k) (pa.length : Int) = some y by rw [hp, idx_mid]]
      simp only [Option.bind_some]
      by_cases hb : x = y
      · subst hb
        have h := ih (pa ++ [x]) (pb ++ [x]) (by simp [hp]) k m hk (by simp <;> omega) (by omega)
        rw [if_neg (by simp), w64_id (by omega) (by omega)]
        simpa using h
      · rw [if_pos (by simpa using hb)]
        simp [hb]
theorem SameInts_eq {n : Nat} (a b : List Int) (hs : a.length < 1048576) (hn : a.length < n) : ref01_SameInts n a b = some (decide (a = b)) := by
  unfold ref01_SameInts
  by_cases h : a.length = b.length
  · rw [if_neg (by simp [h])]
    exact Same_l [] [] rfl a b n h (by simpa using hs) hn
  · rw [if_pos (by simp <;> omega)]
    have : a ≠ b := fun e => h (by rw [e])
    simp [this]
theorem SameInts_self {n : Nat} (a : List Int) (hs : a.length < 1048576) (hn : a.length < n) : ref01_SameInts n a a = some true := by rw [SameInts_eq a a hs hn]; simp
theorem Copy_eq (p : Pulse) (hs : p.Times.length < 1048576) : ref13_Copy p = some p := by
  unfold ref13_Copy
  rw [app_ok (by simp <;> omega)]
  rfl

theorem within_eq (a b c : Int) : pulses_within a b c = some (inR a b c) := by
  unfold pulses_within pulses_within_j1 inR
  by_cases h : b ≤ a <;> simp [h]
theorem Within_eq (a b c : Int) : ref01_Within a b c = some (inR a b c) := by
  unfold ref01_Within ref01_Within_j1 inR
  by_cases h : b ≤ a <;> simp [h]
theorem rwithin_eq (a b c : Int) : ref13_within a b c = some (inR a b c) := by simp [ref13_within, Within_eq]

/-- Do times rise, behind another one. -/
def rise : Option Int → List Int → Bool
  | _, [] => true
  | prev, x :: l => inR x 0 99999 && (match prev with | none => true | some y => decide (y < x)) && rise (some x) l
theorem nil_or_last (pre : List Int) : pre = [] ∨ ∃ q y, pre = q ++ [y] := by
  rcases List.eq_nil_or_concat pre with h | ⟨q, y, h⟩
  · exact .inl h
  · exact .inr ⟨q, y, by simpa using h⟩
theorem idx_last (q : List Int) (y : Int) (l : List Int) (h : (q ++ [y] ++ l).length < 1048576) : idx (q ++ [y] ++ l) (w64 (((q ++ [y]).length : Int) - 1)) = some y := by
  simp at h
  rw [w64_id (by simp <;> omega) (by simp <;> omega), show (((q ++ [y]).length : Int) - 1) = (q.length : Int) by simp, show q ++ [y] ++ l = q ++ y :: l by simp, idx_mid]
theorem Check_times (p : Pulse) : ∀ (l pre : List Int) (m : Nat), p.Times = pre ++ l → p.Times.length < 1048576 → l.length < m →
    pulses_Check_l1 p m (pre.length : Int) = some (cond (rise pre.getLast? l) 0 130) := by
  intro l
  induction l with
  | nil =>
    intro pre m he hs hm
    obtain ⟨m, rfl⟩ : ∃ k, m = k + 1 := ⟨m - 1, by omega⟩
    simp [pulses_Check_l1, pulses_Check_l1_b, pulses_Check_j2, he, rise]
  | cons x l ih =>
    intro pre m he hs hm
    simp at hm
    have hl : p.Times.length = pre.length + (l.length + 1) := by simp [he]
    obtain ⟨m, rfl⟩ : ∃ k, m = k + 1 := ⟨m - 1, by omega⟩
    have h := ih (pre ++ [x]) m (by simp [he]) hs (by omega)
    rw [show (((pre ++ [x]).length : Nat) : Int) = (pre.length : Int) + 1 by simp, List.getLast?_concat] at h
    simp only [pulses_Check_l1, pulses_Check_l1_b]
    rw [if_pos (by simp <;> omega), show idx p.Times (pre.length : Int) = some x by rw [he, idx_mid]]
    simp only [Option.bind_some, within_eq, rise]
    by_cases hr : inR x 0 99999 = true
    · rw [if_neg (by simp [hr])]
      rcases nil_or_last pre with rfl | ⟨q, y, rfl⟩
      · rw [if_neg (by simp)]
        simp only [pulses_Check_j3]
        rw [if_neg (by simp), w64_id (by simp) (by simp), h]
        simp [hr]
      · rw [if_pos (by simp <;> omega), show idx p.Times (w64 (((q ++ [y]).length : Int) - 1)) = some y by rw [he]; exact idx_last q y _ (by rw [← he]; exact hs)]
        simp only [Option.bind_some, pulses_Check_j3, List.getLast?_concat]
        by_cases hb : x ≤ y
        · rw [if_pos (by simpa using hb)]
          simp [hr, show ¬ y < x by omega]
        · rw [if_neg (by simpa using hb), w64_id (by omega) (by omega), h]
          simp [hr, show y < x by omega]
    · have hr' : inR x 0 99999 = false := by simpa using hr
      rw [if_pos (by simp [hr'])]
      simp [pulses_Check_j3, hr']
theorem Rising_times : ∀ (l pre : List Int) (m : Nat), (pre ++ l).length < 1048576 → l.length < m →
    ref01_Rising_l1 (pre ++ l) 0 99999 m (pre.length : Int) = some (rise pre.getLast? l) := by
  intro l
  induction l with
  | nil =>
    intro pre m hs hm
    obtain ⟨m, rfl⟩ : ∃ k, m = k + 1 := ⟨m - 1, by omega⟩
    simp [ref01_Rising_l1, ref01_Rising_l1_b, ref01_Rising_j1, rise]
  | cons x l ih =>
    intro pre m hs hm
    obtain ⟨m, rfl⟩ : ∃ k, m = k + 1 := ⟨m - 1, by omega⟩
    have h := ih (pre ++ [x]) m (by simpa using hs) (by simp at hm; omega)
    rw [show (((pre ++ [x]).length : Nat) : Int) = (pre.length : Int) + 1 by simp, List.getLast?_concat, show pre ++ [x] ++ l = pre ++ x :: l by simp] at h
    simp at hs hm
    simp only [ref01_Rising_l1, ref01_Rising_l1_b]
    rw [if_pos (by simp <;> omega), idx_mid]
    simp only [Option.bind_some, Within_eq, rise]
    by_cases hr : inR x 0 99999 = true
    · rw [if_neg (by simp [hr])]
      rcases nil_or_last pre with rfl | ⟨q, y, rfl⟩
      · rw [if_neg (by simp)]
        simp only [ref01_Rising_j2]
        rw [if_neg (by simp), w64_id (by simp) (by simp), h]
        simp [hr]
      · rw [if_pos (by simp <;> omega), idx_last q y (x :: l) (by simp at hs ⊢; omega)]
        simp only [Option.bind_some, ref01_Rising_j2, List.getLast?_concat]
        by_cases hb : x ≤ y
        · rw [if_pos (by simpa using hb)]
          simp [hr, show ¬ y < x by omega]
        · rw [if_neg (by simpa using hb), w64_id (by omega) (by omega), h]
          simp [hr, show y < x by omega]
    · have hr' : inR x 0 99999 = false := by simpa using hr
      rw [if_pos (by simp [hr'])]
      simp [ref01_Rising_j2, hr']
/-- Is a train valid. -/
def valid (p : Pulse) : Bool := inR p.Letters 1 5 && inR p.Numbers 1 5 && inR p.Pitch 1 99 && inR p.Slack 0 (p.Pitch - 1) && inR p.Gap (p.Pitch + p.Slack + 1) (p.Pause - 1) && inR p.Pause 0 999 && inR p.Sparks 0 3 && decide (p.Times.length ≤ 24) && rise none p.Times
end Go.Law
