/-
  Plain laws about the functions of pulses: the law of More.
  Conditions: none.
-/
import Derived.Test.YtekplngjaddccaaPuY
set_option linter.all false
namespace Go.Law
open Go Go.AM

theorem foldl_min_le : ∀ (l : List Int) (a : Int), l.foldl min a ≤ a
  | [], a => Int.le_refl a
  | x :: l, a => by
    have := foldl_min_le l (min a x)
    simp only [List.foldl_cons]
    omega
theorem foldl_max_le : ∀ (l : List Int) (a : Int), a ≤ l.foldl max a
  | [], a => Int.le_refl a
  | x :: l, a => by
    have := foldl_max_le l (max a x)
    simp only [List.foldl_cons]
    omega
theorem foldl_min_mem : ∀ (l : List Int) (a x : Int), x ∈ l → l.foldl min a ≤ x
  | [], a, x, h => by simp at h
  | y :: l, a, x, h => by
    simp only [List.foldl_cons]
    rcases List.mem_cons.1 h with rfl | h
    · have := foldl_min_le l (min a x)
      omega
    · exact foldl_min_mem l _ x h
theorem foldl_max_mem : ∀ (l : List Int) (a x : Int), x ∈ l → x ≤ l.foldl max a
  | [], a, x, h => by simp at h
  | y :: l, a, x, h => by
    simp only [List.foldl_cons]
    rcases List.mem_cons.1 h with rfl | h
    · have := foldl_max_le l (max a x)
      omega
    · exact foldl_max_mem l _ x h
theorem isIn_eq {n : Nat} (a b : List Int) (ha : a.length ≤ 40) (hb : b.length ≤ 40) (hn : 1000 ≤ n) : law13_isIn n a b = some (a.all fun x => b.contains x) := by
  unfold law13_isIn
  rw [if_neg (by simp; omega), show decide ((b.length : Int) > 40) = false by simp; omega]
  simp only [law13_isIn_j1, Bool.false_eq_true, if_false]
  have key : ∀ (l pre : List Int) (m : Nat), a = pre ++ l → l.length < m → law13_isIn_l1 n a b m (pre.length : Int) = some (l.all fun x => b.contains x) := by
    intro l
    induction l with
    | nil =>
      intro pre m he hm
      obtain ⟨m, rfl⟩ : ∃ k, m = k + 1 := ⟨m - 1, by omega⟩
      simp [law13_isIn_l1, law13_isIn_l1_b, law13_isIn_j2, he]
    | cons y l ih =>
      intro pre m he hm
      simp at hm
      have hl : a.length = pre.length + (l.length + 1) := by simp [he]
      obtain ⟨m, rfl⟩ : ∃ k, m = k + 1 := ⟨m - 1, by omega⟩
      have hc : (((pre ++ [y]).length : Nat) : Int) = (pre.length : Int) + 1 := by simp
      have h := ih (pre ++ [y]) m (by simp [he]) (by omega)
      rw [hc] at h
      simp only [law13_isIn_l1, law13_isIn_l1_b]
      rw [if_pos (by simp; omega), show idx a (pre.length : Int) = some y by rw [he, idx_mid]]
      simp only [Option.bind_some]
      rw [In_eq y (by omega) (by omega), w64_id (by omega) (by omega), h]
      simp only [Option.bind_some, List.all_cons]
      cases b.contains y <;> simp
  exact key a [] n rfl (by omega)
theorem isSel_eq (p : Pulse) (x : Int) : ref13_IsSelection p x = some (isSel p x) := by
  simp [ref13_IsSelection, rwithin_eq, isSel]
theorem mem_ints (i : Nat) (l : List Nat) : (ints' l).contains (i : Int) = l.contains i := contains_ints l i
theorem all_ints (l k : List Nat) (h : ∀ i, i ∈ l → i ∈ k) : (ints' l).all (fun x => (ints' k).contains x) = true := by
  rw [List.all_eq_true]
  intro x hx
  obtain ⟨i, hi, rfl⟩ := List.mem_map.1 hx
  rw [mem_ints]
  simpa using h i hi
end Go.Law
