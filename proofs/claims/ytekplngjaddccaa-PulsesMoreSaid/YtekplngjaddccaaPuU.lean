/-
  Plain laws about the functions of pulses: Fewest, and the law of Many.
  Conditions: none.
-/
import Derived.Test.YtekplngjaddccaaPuT
set_option linter.all false
namespace Go.Law
open Go Go.AM

theorem cmb_size : ∀ (k : Nat) (ps is : List Nat), is ∈ cmb k ps → is.length = k
  | 0, ps, is, h => by simp [cmb] at h; simp [h]
  | k + 1, [], is, h => by simp [cmb] at h
  | k + 1, i :: ps, is, h => by
    simp only [cmb, List.mem_append, List.mem_map] at h
    rcases h with ⟨is', h1, rfl⟩ | h
    · simp [cmb_size k ps is' h1]
    · exact cmb_size (k + 1) ps is h
theorem mem_goodP {p : Pulse} {k : Nat} {is : List Nat} : is ∈ goodP p k ↔ is.length ≤ k ∧ is ∈ cmb is.length (spots p) ∧ (rd p is).isSome = true := by
  unfold goodP cmbs
  rw [List.mem_filter, List.mem_flatMap]
  constructor
  · rintro ⟨⟨j, hj, hm⟩, h⟩
    have := cmb_size j _ is hm
    subst this
    rw [List.mem_range] at hj
    exact ⟨by omega, hm, h⟩
  · rintro ⟨h1, h2, h3⟩
    exact ⟨⟨is.length, List.mem_range.2 (by omega), h2⟩, h3⟩
theorem Far_eq {n : Nat} (p : Pulse) (hn : 1000 ≤ n) : law13_Far n p = some (decide (p.Times.length > 40) || (valid p && decide (p.Times.length > 14))) := by
  unfold law13_Far law13_Far_j1
  by_cases h : p.Times.length > 40
  · rw [if_pos (by simp; omega)]
    simp [h]
  · rw [if_neg (by simp; omega), rCheck_eq p (by omega) (by omega)]
    simp only [Option.bind_some, h, decide_false, Bool.false_or]
    cases valid p with
    | false => simp
    | true => simp <;> omega
end Go.Law
