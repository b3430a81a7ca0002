/-
  Plain laws about the functions of pulses: both checks.
  Conditions: none.
-/
import Derived.Test.YtekplngjaddccaaPuA
set_option linter.all false
namespace Go.Law
open Go Go.AM

theorem cond_b {a b : Bool} {x y : Option Int} : (if (!a) = true then x else y) = cond a y x := by cases a <;> rfl
def fields8 (p : Pulse) : List An58 := [⟨p.Letters, 1, 5⟩, ⟨p.Numbers, 1, 5⟩, ⟨p.Pitch, 1, 99⟩, ⟨p.Slack, 0, w64 (p.Pitch - 1)⟩, ⟨p.Gap, w64 ((w64 (p.Pitch + p.Slack)) + 1), w64 (p.Pause - 1)⟩, ⟨p.Pause, 0, 999⟩, ⟨p.Sparks, 0, 3⟩, ⟨(p.Times.length : Int), 0, 24⟩]
theorem Check_step (n : Nat) (p : Pulse) (k v : Nat) (x : An58) (hx : (fields8 p)[v]? = some x) (hv : v < 8) :
    pulses_Check_l2 n p (k + 1) (v : Int) = cond (inR x.n x.low x.high) (pulses_Check_l2 n p k ((v + 1 : Nat) : Int)) (some 130) := by
  simp only [pulses_Check_l2, pulses_Check_l2_b]
  rw [if_pos (by simp; omega)]
  have : idx (fields8 p) (v : Int) = some x := by unfold idx; rw [if_pos (by omega), Int.toNat_natCast, hx]
  have h2 := this
  unfold fields8 at h2
  rw [h2]
  simp only [Option.bind_some, within_eq, cond_b]
  rw [w64_id (by omega) (by omega)]
  cases inR x.n x.low x.high <;> simp
theorem Check_eq {n : Nat} (p : Pulse) (hs : p.Times.length < 1048576) (hn : p.Times.length < n) (hn2 : 10 ≤ n) : pulses_Check n p = some (cond (valid p) 0 130) := by
  obtain ⟨k, hk⟩ : ∃ k, n = k + 9 := ⟨n - 9, by omega⟩
  have ht := Check_times p p.Times [] n rfl hs hn
  simp only [List.getLast?_nil] at ht
  unfold pulses_Check
  have h0 : pulses_Check_l2 n p n 0 = pulses_Check_l2 n p (k + 8 + 1) ((0 : Nat) : Int) := by rw [hk]; rfl
  rw [h0, Check_step n p (k + 8) 0 _ rfl (by omega), Check_step n p (k + 7) 1 _ rfl (by omega), Check_step n p (k + 6) 2 _ rfl (by omega), Check_step n p (k + 5) 3 _ rfl (by omega),
    Check_step n p (k + 4) 4 _ rfl (by omega), Check_step n p (k + 3) 5 _ rfl (by omega), Check_step n p (k + 2) 6 _ rfl (by omega), Check_step n p (k + 1) 7 _ rfl (by omega)]
  have h8 : pulses_Check_l2 n p (k + 1) ((7 + 1 : Nat) : Int) = some (cond (rise none p.Times) 0 130) := by
    simp only [pulses_Check_l2, pulses_Check_l2_b]
    rw [if_neg (by decide)]
    exact ht
  rw [h8]
  simp only [valid]
  cases h1 : inR p.Letters 1 5
  · simp
  cases h2 : inR p.Numbers 1 5
  · simp
  cases h3 : inR p.Pitch 1 99
  · simp
  have b3 := inR_iff.1 h3
  rw [w64_id (x := p.Pitch - 1) (by omega) (by omega)]
  cases h4 : inR p.Slack 0 (p.Pitch - 1)
  · simp
  have b4 := inR_iff.1 h4
  rw [w64_id (x := p.Pitch + p.Slack) (by omega) (by omega), w64_id (x := p.Pitch + p.Slack + 1) (by omega) (by omega)]
  cases h6 : inR p.Pause 0 999
  · cases inR p.Gap (p.Pitch + p.Slack + 1) (w64 (p.Pause - 1)) <;> simp
  have b6 := inR_iff.1 h6
  rw [w64_id (x := p.Pause - 1) (by omega) (by omega)]
  have h7 : inR (p.Times.length : Int) 0 24 = decide (p.Times.length ≤ 24) := by
    unfold inR
    by_cases h : p.Times.length ≤ 24
    · simp [h]; omega
    · simp [h]; omega
  simp only [h7]
  cases inR p.Gap (p.Pitch + p.Slack + 1) (p.Pause - 1) <;> cases inR p.Sparks 0 3 <;> cases decide (p.Times.length ≤ 24) <;> simp
theorem rCheck_eq {n : Nat} (p : Pulse) (hs : p.Times.length < 1048576) (hn : p.Times.length < n) : ref13_Check n p = some (cond (valid p) 0 130) := by
  have ht := Rising_times p.Times [] n (by simpa using hs) hn
  simp only [List.getLast?_nil, List.nil_append, List.length_nil] at ht
  replace ht : ref01_Rising n p.Times 0 99999 = some (rise none p.Times) := ht
  unfold ref13_Check
  simp only [rwithin_eq, ht, Option.bind_some, ref13_Check_j1, valid]
  cases h1 : inR p.Letters 1 5
  · simp
  cases h2 : inR p.Numbers 1 5
  · simp
  cases h3 : inR p.Pitch 1 99
  · simp
  have b3 := inR_iff.1 h3
  rw [w64_id (x := p.Pitch - 1) (by omega) (by omega)]
  cases h4 : inR p.Slack 0 (p.Pitch - 1)
  · simp
  have b4 := inR_iff.1 h4
  rw [w64_id (x := p.Pitch + p.Slack) (by omega) (by omega), w64_id (x := p.Pitch + p.Slack + 1) (by omega) (by omega)]
  cases h6 : inR p.Pause 1 999
  · cases h5 : inR p.Gap (p.Pitch + p.Slack + 1) (p.Pause - 1)
    · simp
    · have b5 := inR_iff.1 h5
      have : inR p.Pause 0 999 = false := by
        cases hh : inR p.Pause 0 999 with
        | false => rfl
        | true =>
          have b := inR_iff.1 hh
          have : inR p.Pause 1 999 = true := inR_iff.2 ⟨by omega, b.2⟩
          rw [this] at h6
          cases h6
      simp [this]
  have b6 := inR_iff.1 h6
  have h6' : inR p.Pause 0 999 = true := inR_iff.2 ⟨by omega, b6.2⟩
  rw [w64_id (x := p.Pause - 1) (by omega) (by omega), h6']
  by_cases hl : p.Times.length ≤ 24
  · rw [if_neg (show ¬ decide ((p.Times.length : Int) > 24) = true by simp; omega)]
    cases inR p.Gap (p.Pitch + p.Slack + 1) (p.Pause - 1) <;> cases inR p.Sparks 0 3 <;> cases rise none p.Times <;> simp [hl]
  · rw [if_pos (show decide ((p.Times.length : Int) > 24) = true by simp; omega)]
    cases inR p.Gap (p.Pitch + p.Slack + 1) (p.Pause - 1) <;> cases inR p.Sparks 0 3 <;> simp [hl]
/-- What a valid train has. -/
theorem valid_iff {p : Pulse} (h : valid p = true) : (1 ≤ p.Letters ∧ p.Letters ≤ 5) ∧ (1 ≤ p.Numbers ∧ p.Numbers ≤ 5) ∧ (1 ≤ p.Pitch ∧ p.Pitch ≤ 99) ∧ (0 ≤ p.Slack ∧ p.Slack ≤ p.Pitch - 1) ∧ (p.Pitch + p.Slack + 1 ≤ p.Gap ∧ p.Gap ≤ p.Pause - 1) ∧
    (0 ≤ p.Pause ∧ p.Pause ≤ 999) ∧ (0 ≤ p.Sparks ∧ p.Sparks ≤ 3) ∧ p.Times.length ≤ 24 ∧ rise none p.Times = true := by
  simp only [valid, Bool.and_eq_true, inR_iff, decide_eq_true_eq] at h
  obtain ⟨⟨⟨⟨⟨⟨⟨⟨h1, h2⟩, h3⟩, h4⟩, h5⟩, h6⟩, h7⟩, h8⟩, h9⟩ := h
  exact ⟨h1, h2, h3, h4, h5, h6, h7, h8, h9⟩
end Go.Law
