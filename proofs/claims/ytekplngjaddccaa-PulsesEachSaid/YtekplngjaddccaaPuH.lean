/-
  Plain laws about the functions of pulses: sets as bits.
  Conditions: none.
-/
import Derived.Test.YtekplngjaddccaaPuG
set_option linter.all false
namespace Go.Law
open Go Go.AM

theorem wrapU {x : Int} (h0 : 0 ≤ x) (h1 : x < 18446744073709551616) : IntKind.u64.wrap x = x := by
  have : IntKind.u64.wrap x = x % 18446744073709551616 := by simp [IntKind.wrap, IntKind.bits, IntKind.signed]
  rw [this]
  omega
theorem shl_one {i : Nat} (h : i < 60) : shl64 1 (i : Int) = some ((2 ^ i : Nat) : Int) := by
  unfold shl64
  rw [if_pos (by omega), Int.toNat_natCast, Nat.min_eq_left (by omega)]
  have h2 : (2 : Nat) ^ i < 2 ^ 60 := Nat.pow_lt_pow_right (by omega) h
  have h3 : (2 : Int) ^ i = ((2 ^ i : Nat) : Int) := by push_cast; rfl
  have h60 : (2 : Nat) ^ 60 = 1152921504606846976 := by decide
  rw [h3]
  generalize (2 : Nat) ^ i = w at h2 ⊢
  rw [show (1 : Int) * (w : Int) = w by omega, wrapU (by omega) (by omega)]
theorem or_nat {a b : Nat} (ha : a < 2 ^ 60) (hb : b < 2 ^ 60) : or64 (a : Int) (b : Int) = ((a ||| b : Nat) : Int) := by
  have h60 : (2 : Nat) ^ 60 = 1152921504606846976 := by decide
  have hab : a ||| b < 2 ^ 60 := Nat.or_lt_two_pow ha hb
  unfold or64
  have : (BitVec.ofInt 64 (a : Int) ||| BitVec.ofInt 64 (b : Int)).toNat = a ||| b := by
    rw [BitVec.toNat_or]
    simp only [BitVec.ofInt_natCast, BitVec.toNat_ofNat]
    rw [Nat.mod_eq_of_lt (by omega), Nat.mod_eq_of_lt (by omega)]
  rw [this, wrapU (by omega) (by omega)]
theorem has_nat {a i : Nat} (ha : a < 2 ^ 60) (hi : i < 60) : pulses_set_has (a : Int) (i : Int) = some (a.testBit i) := by
  have h60 : (2 : Nat) ^ 60 = 1152921504606846976 := by decide
  unfold pulses_set_has shr64
  rw [if_pos (by omega), Int.toNat_natCast, Nat.min_eq_left (by omega)]
  have h3 : ((a : Int)).fdiv (2 ^ i) = ((a / 2 ^ i : Nat) : Int) := by
    rw [show ((2 : Int) ^ i) = ((2 ^ i : Nat) : Int) by push_cast; rfl]
    generalize (2 : Nat) ^ i = w
    rw [Int.fdiv_eq_ediv_of_nonneg _ (by omega)]
    rfl
  rw [h3]
  simp only [Option.bind_some]
  have h4 : and64 ((a / 2 ^ i : Nat) : Int) 1 = ((a / 2 ^ i % 2 : Nat) : Int) := by
    unfold and64
    have hd : a / 2 ^ i ≤ a := Nat.div_le_self _ _
    have : (BitVec.ofInt 64 ((a / 2 ^ i : Nat) : Int) &&& BitVec.ofInt 64 1).toNat = a / 2 ^ i % 2 := by
      rw [BitVec.toNat_and]
      simp only [BitVec.ofInt_natCast, BitVec.toNat_ofNat]
      rw [Nat.mod_eq_of_lt (by omega), show (BitVec.ofInt 64 1).toNat = 1 by decide, Nat.and_one_is_mod]
    rw [this, wrapU (by omega) (by omega)]
  rw [h4, Nat.testBit_eq_decide_div_mod_eq]
  congr 1
  rcases Nat.mod_two_eq_zero_or_one (a / 2 ^ i) with h | h <;> rw [h] <;> decide
/-- All rising lists of so many of these positions. -/
def cmb : Nat → List Nat → List (List Nat)
  | 0, _ => [[]]
  | _ + 1, [] => []
  | k + 1, i :: ps => (cmb k ps).map (i :: ·) ++ cmb (k + 1) ps
def bits (first : Nat) (is : List Nat) : Nat := is.foldl (fun a i => a ||| 2 ^ i) first
end Go.Law
