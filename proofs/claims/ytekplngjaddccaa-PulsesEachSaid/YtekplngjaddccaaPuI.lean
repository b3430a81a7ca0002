/-
  Plain laws about the functions of pulses: the sets that are yielded.
  Conditions: none.
-/
import Derived.Test.YtekplngjaddccaaPuH
set_option linter.all false
namespace Go.Law
open Go Go.AM

/-- Yielding one after the other, until the answer is no. -/
def yieldAll {S : Type} (aF : Int → S → Option (Bool × S)) : List Int → S → Option (Bool × S)
  | [], s => some (true, s)
  | x :: l, s => (aF x s).bind fun r => if r.1 = true then yieldAll aF l r.2 else some (false, r.2)
theorem yieldAll_append {S : Type} (aF : Int → S → Option (Bool × S)) : ∀ (l k : List Int) (s : S), yieldAll aF (l ++ k) s = (yieldAll aF l s).bind fun r => if r.1 = true then yieldAll aF k r.2 else some (false, r.2)
  | [], k, s => by simp [yieldAll]
  | x :: l, k, s => by
    simp only [List.cons_append, yieldAll]
    cases h : aF x s with
    | none => rfl
    | some r =>
      simp only [Option.bind_some]
      cases hr : r.1 with
      | true => simp only [if_true]; exact yieldAll_append aF l k r.2
      | false => simp
def masks (first k a m : Nat) : List Int := (cmb k (List.range' a m)).map fun is => ((bits first is : Nat) : Int)
theorem masks_succ (first k a m : Nat) : masks first (k + 1) a (m + 1) = masks (first ||| 2 ^ a) k (a + 1) m ++ masks first (k + 1) (a + 1) m := by
  unfold masks
  rw [List.range'_succ]
  simp only [cmb, List.map_append, List.map_map]
  rfl
theorem sets_eq {S : Type} (aF : Int → S → Option (Bool × S)) (p : Pulse) (hl : p.Times.length ≤ 40) : ∀ (k n first a : Nat) (s : S), k + 50 ≤ n → k ≤ 1000 → first < 2 ^ 60 → a ≤ p.Times.length →
    pulses_train_sets n aF (⟨p⟩ : Train_) (first : Int) (a : Int) (k : Int) s = yieldAll aF (masks first k a (p.Times.length - a)) s := by
  intro k
  induction k with
  | zero =>
    intro n first a s hn hk hf ha
    obtain ⟨n, rfl⟩ : ∃ j, n = j + 1 := ⟨n - 1, by omega⟩
    simp only [pulses_train_sets, pulses_train_sets_b]
    rw [if_pos (by simp)]
    have : masks first 0 a (p.Times.length - a) = [(first : Int)] := by simp [masks, cmb, bits]
    rw [this]
    simp only [yieldAll]
    cases h : aF (first : Int) s with
    | none => rfl
    | some r =>
      simp only [Option.bind_some]
      rcases r with ⟨b, s'⟩
      cases b <;> rfl
  | succ k ih =>
    intro n first a s hn hk hf ha
    obtain ⟨n, rfl⟩ : ∃ j, n = j + 1 := ⟨n - 1, by omega⟩
    simp only [pulses_train_sets, pulses_train_sets_b]
    rw [if_neg (by simp; omega)]
    have key : ∀ (d m a : Nat) (s : S), d = p.Times.length - a → a ≤ p.Times.length → d < m →
        pulses_train_sets_l1 (pulses_train_sets n aF) (⟨p⟩ : Train_) (first : Int) ((k + 1 : Nat) : Int) m (a : Int) s = yieldAll aF (masks first (k + 1) a d) s := by
      intro d
      induction d with
      | zero =>
        intro m a s hd ha' hm
        obtain ⟨m, rfl⟩ : ∃ j, m = j + 1 := ⟨m - 1, by omega⟩
        simp only [pulses_train_sets_l1, pulses_train_sets_l1_b, pulses_train_sets_j1]
        rw [if_neg (by simp; omega)]
        rfl
      | succ d ihd =>
        intro m a s hd ha' hm
        obtain ⟨m, rfl⟩ : ∃ j, m = j + 1 := ⟨m - 1, by omega⟩
        simp only [pulses_train_sets_l1, pulses_train_sets_l1_b]
        rw [if_pos (by simp; omega), shl_one (by omega)]
        simp only [Option.bind_some]
        have h2 : (2 : Nat) ^ a < 2 ^ 60 := Nat.pow_lt_pow_right (by omega) (by omega)
        rw [or_nat hf h2, w64_id (x := (a : Int) + 1) (by omega) (by omega), w64_id (x := ((k + 1 : Nat) : Int) - 1) (by omega) (by omega)]
        have h3 := ih n (first ||| 2 ^ a) (a + 1) s (by omega) (by omega) (Nat.or_lt_two_pow hf h2) (by omega)
        rw [show (((k + 1 : Nat) : Int) - 1) = (k : Int) by omega, show ((a : Int) + 1) = ((a + 1 : Nat) : Int) by omega, h3, masks_succ, yieldAll_append, show p.Times.length - (a + 1) = d by omega]
        cases hy : yieldAll aF (masks (first ||| 2 ^ a) k (a + 1) d) s with
        | none => rfl
        | some r =>
          simp only [Option.bind_some]
          cases hr : r.1 with
          | true =>
            simp only [Bool.not_true, Bool.false_eq_true, if_false, if_true]
            exact ihd m (a + 1) r.2 (by omega) (by omega) (by omega)
          | false => simp
    exact key (p.Times.length - a) n a s rfl ha (by omega)
end Go.Law
