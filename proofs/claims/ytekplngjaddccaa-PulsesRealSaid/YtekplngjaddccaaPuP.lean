/-
  Plain laws about the functions of pulses: known, and Many.
  Conditions: none.
-/
import Derived.Test.YtekplngjaddccaaPuO
set_option linter.all false
namespace Go.Law
open Go Go.AM

theorem sub_len14 {k : Nat} {ps : List Nat} (hk : k ≤ 3) (hp : ps.length ≤ 14) : (sub k ps).length ≤ 13500 := by
  rw [(sub_perm k ps).length_eq]
  refine Nat.le_trans (flat_len 14 3 ps hp (k + 1) (by omega)) ?_
  have h25 : (14 + 1) ^ 3 = 3375 := by decide
  rw [h25]
  omega
theorem known_eq {n : Nat} (p : Pulse) (hs : p.Times.length ≤ 40) (hf : valid p = true → p.Times.length ≤ 14) (hn : 15000 ≤ n) (b : Bool) :
    ref13_known n p b = some (if valid p = true then (if b = true then (if rReads p p.Sparks.toNat = [] then ([], 3) else (rReads p p.Sparks.toNat, 0)) else ([], 1)) else ([], 130)) := by
  unfold ref13_known
  rw [rCheck_eq p (by omega) (by omega)]
  simp only [Option.bind_some]
  cases hv : valid p with
  | false => simp
  | true =>
    obtain ⟨v1, v2, v3, v4, v5, v6, v7, v8, v9⟩ := valid_iff hv
    simp only [cond_true, bne_self_eq_false, Bool.false_eq_true, if_false, if_true]
    cases b with
    | false => simp
    | true =>
      have hl := sub_len14 (k := p.Sparks.toNat) (ps := List.range' 0 p.Times.length) (by omega) (by simp; exact hf hv)
      have h := rReads_eq (n := n) p hv (by omega) p.Sparks.toNat (by omega) (by omega)
      rw [show ((p.Sparks.toNat : Nat) : Int) = p.Sparks by omega] at h
      simp only [Bool.not_true, Bool.false_eq_true, if_false, if_true, h, Option.bind_some]
      by_cases hr : rReads p p.Sparks.toNat = []
      · simp [hr]
      · rw [if_neg (by have := List.length_pos_iff.2 hr; simp; omega), if_neg hr]
end Go.Law
