/-
  Plain laws about the functions of pulses: equal lists.
  Conditions: none.
-/
import Derived.Test.YtekplngjaddccaaPuQ
set_option linter.all false
namespace Go.Law
open Go Go.AM

theorem Equal_l (pa pb : List Int) (hp : pa.length = pb.length) : ∀ (l k : List Int) (m : Nat), l.length = k.length → (pa ++ l).length < 1048576 → l.length < m →
    slices_Equal_int_l1 (pa ++ l) (pb ++ k) m (pa.length : Int) = some (decide (l = k)) := by
  intro l
  induction l generalizing pa pb with
  | nil =>
    intro k m hk hs hm
    obtain ⟨m, rfl⟩ : ∃ k, m = k + 1 := ⟨m - 1, by omega⟩
    have : k = [] := List.eq_nil_of_length_eq_zero (by simpa using hk.symm)
    subst this
    simp [slices_Equal_int_l1, slices_Equal_int_l1_b, slices_Equal_int_j1]
  | cons x l ih =>
    intro k m hk hs hm
    obtain ⟨m, rfl⟩ : ∃ k, m = k + 1 := ⟨m - 1, by omega⟩
    cases k with
    | nil => simp at hk
    | cons y k =>
      simp at hk hs hm
      simp only [slices_Equal_int_l1, slices_Equal_int_l1_b]
      rw [if_pos (by simp; omega), idx_mid, show idx (pb ++ y :: k) (pa.length : Int) = some y by rw [hp, idx_mid]]
      simp only [Option.bind_some]
      by_cases hb : x = y
      · subst hb
        have h := ih (pa ++ [x]) (pb ++ [x]) (by simp [hp]) k m hk (by simp; omega) (by omega)
        rw [if_neg (by simp), w64_id (by omega) (by omega)]
        simpa using h
      · rw [if_pos (by simpa using hb)]
        simp [hb]
theorem Equal_eq {n : Nat} (a b : List Int) (hs : a.length < 1048576) (hn : a.length < n) : slices_Equal_int n a b = some (decide (a = b)) := by
  unfold slices_Equal_int
  by_cases h : a.length = b.length
  · rw [if_neg (by simp [h])]
    exact Equal_l [] [] rfl a b n h (by simpa using hs) hn
  · rw [if_pos (by simp; omega)]
    have : a ≠ b := fun e => h (by rw [e])
    simp [this]
end Go.Law
