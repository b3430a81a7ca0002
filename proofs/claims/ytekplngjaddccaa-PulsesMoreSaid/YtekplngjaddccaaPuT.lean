/-
  Plain laws about the functions of pulses: Lists and Read.
  Conditions: none.
-/
import Derived.Test.YtekplngjaddccaaPuS
set_option linter.all false
namespace Go.Law
open Go Go.AM

theorem good_len {p : Pulse} (hk : p.Sparks.toNat ≤ 3) (hl : p.Times.length ≤ 14) : (goodP p p.Sparks.toNat).length ≤ 13500 := by
  rw [← (good_perm p p.Sparks.toNat).length_eq]
  have h1 := sub_len14 (k := p.Sparks.toNat) (ps := spots p) hk (by simp [spots]; exact hl)
  have h2 : (goodR p p.Sparks.toNat).length ≤ (sub p.Sparks.toNat (spots p)).length := List.length_filter_le _ _
  omega
theorem openR_len {p : Pulse} (hf : valid p = true → p.Times.length ≤ 14) : (openR p).1.length ≤ 13500 := by
  unfold openR
  cases hv : valid p with
  | false => simp
  | true =>
    obtain ⟨v1, v2, v3, v4, v5, v6, v7, v8, v9⟩ := valid_iff hv
    simp only [if_true]
    split
    · simp
    · simp only [List.length_map]
      exact good_len (by omega) (hf hv)
theorem openR_list {p : Pulse} (hs : p.Times.length ≤ 40) : ∀ x, x ∈ (openR p).1 → x.list.length < 1000 := by
  intro x hx
  unfold openR at hx
  split at hx
  · split at hx
    · simp at hx
    · obtain ⟨is, _, rfl⟩ := List.mem_map.1 hx
      have := listOf_len p is
      simp only
      omega
  · simp at hx
theorem Lists_eq {n : Nat} (p : Pulse) (hs : p.Times.length ≤ 40) (hf : valid p = true → p.Times.length ≤ 14) (hn : 15000 ≤ n) :
    pulses_Lists n p = some (((firsts [] ((openR p).1.map (·.list))).length : Int), (openR p).2) := by
  obtain ⟨s'', h⟩ := open_any (n := n) p (by omega) (by omega)
  have hl := openR_len hf
  unfold pulses_Lists
  rw [h]
  simp only [Option.bind_some]
  rw [lists_eq (openR p).1 (openR_list hs) (by omega) (by omega) (by omega)]
  rfl
theorem firsts_ne {L : List (List Int)} (h : L ≠ []) : firsts [] L ≠ [] := by
  cases L with
  | nil => exact absurd rfl h
  | cons a l =>
    have : a ∈ firsts [] (a :: l) := (firsts_mem _ _ a).2 (.inr (by simp))
    intro e
    rw [e] at this
    simp at this
end Go.Law
