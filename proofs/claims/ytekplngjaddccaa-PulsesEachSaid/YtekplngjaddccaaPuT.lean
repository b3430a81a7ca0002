/-
  Plain laws about the functions of pulses: Lists and Read.
  Conditions: none.
-/
import Derived.Test.YtekplngjaddccaaPuS
set_option linter.all false
namespace Go.Law
open Go Go.AM

theorem good_len {p : Pulse} (hk : p.Sparks.toNat ≤ 3) (hl : p.Times.length ≤ 14) : (goodP p p.Sparks.toNat).length ≤ 13500 := by
  rw [← (good_perm p p.Sparks.toNat).length_eq]
  have h1 := sub_len14 (k := p.Sparks.toNat) (ps := spots p) hk (by simp [spots]; exact hl)
  have h2 : (goodR p p.Sparks.toNat).length ≤ (sub p.Sparks.toNat (spots p)).length := List.length_filter_le _ _
  omega
theorem openR_len {p : Pulse} (hf : valid p = true → p.Times.length ≤ 14) : (openR p).1.length ≤ 13500 := by
  unfold openR
  cases hv : valid p with
  | false => simp
  | true =>
    obtain ⟨v1, v2, v3, v4, v5, v6, v7, v8, v9⟩ := valid_iff hv
    simp only [if_true]
    split
    · simp
    · simp only [List.length_map]
      exact good_len (by omega) (hf hv)
theorem openR_list {p : Pulse} (hs : p.Times.length ≤ 40) : ∀ x, x ∈ (openR p).1 → x.list.length < 1000 := by
  intro x hx
  unfold openR at hx
  split at hx
  · split at hx
    · simp at hx
    · obtain ⟨is, _, rfl⟩ := List.mem_map.1 hx
      have := listOf_len p is
      simp only
      omega
  · simp at hx
theorem open_none {p : Pulse} (h : (openR p).2 = 0) : (openR p).1 ≠ [] := by
  unfold openR at h ⊢
  split at h
  · split at h
    · cases h
    · rename_i hv hg
      rw [if_pos hv, if_neg hg]
      simpa using hg
  · cases h
/-- The one list of all, or the error. -/
def oneR (L : List (List Int)) : List Int × Int := if 1 < (firsts [] L).length then ([], 2) else ((firsts [] L).headD [], 0)
theorem one_all (a : List Int) : ∀ l : List (List Int), oneR (a :: l) = if l.all (fun x => decide (x = a)) = true then (a, 0) else ([], 2) := by
  intro l
  unfold oneR
  have e : firsts [] (a :: l) = firsts [a] l := by simp [firsts]
  rw [e]
  by_cases h : l.all (fun x => decide (x = a)) = true
  · have : firsts [a] l = [a] := by
      clear e
      induction l with
      | nil => rfl
      | cons x l ih =>
        simp only [List.all_cons, Bool.and_eq_true, decide_eq_true_eq] at h
        rw [firsts, if_pos (by rw [h.1]; simp)]
        exact ih (by simpa using h.2)
    rw [if_pos h, this]
    rfl
  · rw [if_neg h]
    have : ∃ x, x ∈ l ∧ x ≠ a := by
      simp only [List.all_eq_true, decide_eq_true_eq] at h
      exact Classical.byContradiction fun hc => h fun x hx => Classical.byContradiction fun hne => hc ⟨x, hx, hne⟩
    obtain ⟨x, hx, hne⟩ := this
    have m1 : a ∈ firsts [a] l := (firsts_mem l [a] a).2 (.inl (by simp))
    have m2 : x ∈ firsts [a] l := (firsts_mem l [a] x).2 (.inr hx)
    rw [if_pos ?_]
    generalize firsts [a] l = f at m1 m2
    match f with
    | [] => simp at m1
    | [y] =>
      rw [List.mem_singleton] at m1 m2
      exact absurd (m2.trans m1.symm) hne
    | _ :: _ :: _ => simp
def readR (p : Pulse) : List Int × Int := if (openR p).2 ≠ 0 then ([], (openR p).2) else oneR ((openR p).1.map (·.list))
theorem firsts_ne {L : List (List Int)} (h : L ≠ []) : firsts [] L ≠ [] := by
  cases L with
  | nil => exact absurd rfl h
  | cons a l =>
    have : a ∈ firsts [] (a :: l) := (firsts_mem _ _ a).2 (.inr (by simp))
    intro e
    rw [e] at this
    simp at this
theorem one_eq {n : Nat} (L : List Reading_) (hne : L ≠ []) (hl : ∀ x, x ∈ L → x.list.length < 1000) (hs : L.length < 1000000) (hn : L.length < n) (hn' : 1000 ≤ n) : pulses_one n L = some (oneR (L.map (·.list))) := by
  unfold pulses_one oneR
  rw [lists_eq L hl hs hn hn']
  simp only [Option.bind_some]
  by_cases h1 : 1 < (firsts [] (L.map (·.list))).length
  · rw [if_pos (by simp; omega), if_pos h1]
  · rw [if_neg (by simp; omega), if_neg h1]
    have := firsts_ne (L := L.map (·.list)) (by simpa using hne)
    generalize firsts [] (L.map (·.list)) = f at this
    cases f with
    | nil => exact absurd rfl this
    | cons a l => rfl
theorem Read_eq {n : Nat} (p : Pulse) (hs : p.Times.length ≤ 40) (hf : valid p = true → p.Times.length ≤ 14) (hn : 15000 ≤ n) : pulses_Read n p = some (readR p) := by
  obtain ⟨s'', h⟩ := open_any (n := n) p (by omega) (by omega)
  have hl := openR_len hf
  unfold pulses_Read readR
  rw [h]
  simp only [Option.bind_some]
  by_cases h0 : (openR p).2 = 0
  · rw [if_neg (by simp [h0]), if_neg (by simp [h0]), one_eq _ (open_none h0) (openR_list hs) (by omega) (by omega) (by omega)]
    rfl
  · rw [if_pos (by simp [h0]), if_pos h0]
end Go.Law
