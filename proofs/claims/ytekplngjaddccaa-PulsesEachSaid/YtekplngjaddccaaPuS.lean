/-
  Plain laws about the functions of pulses: the different lists.
  Conditions: none.
-/
import Derived.Test.YtekplngjaddccaaPuR
set_option linter.all false
namespace Go.Law
open Go Go.AM

/-- The first of each. -/
def firsts {α : Type} [DecidableEq α] : List α → List α → List α
  | out, [] => out
  | out, x :: l => if x ∈ out then firsts out l else firsts (out ++ [x]) l
theorem firsts_mem {α : Type} [DecidableEq α] : ∀ (l out : List α) (x : α), x ∈ firsts out l ↔ x ∈ out ∨ x ∈ l
  | [], out, x => by simp [firsts]
  | y :: l, out, x => by
    simp only [firsts]
    split
    · rw [firsts_mem l out x, List.mem_cons]
      constructor
      · rintro (h | h)
        · exact .inl h
        · exact .inr (.inr h)
      · rintro (h | rfl | h)
        · exact .inl h
        · exact .inl (by assumption)
        · exact .inr h
    · rw [firsts_mem l _ x]
      simp [or_assoc]
theorem cl_len (p : Pulse) : ∀ (l : List Int) (y g h : Int) (out q : List Int), cl p y g h out l = some q → q.length ≤ out.length + l.length + 1
  | [], y, g, h, out, q, e => by
    simp only [cl] at e
    split at e
    · cases e; simp
    · cases e
  | x :: l, y, g, h, out, q, e => by
    simp only [cl] at e
    repeat' split at e
    all_goals first | (cases e; done) | (have := cl_len p l _ _ _ _ _ e; simp at this ⊢; omega)
theorem clean_len (p : Pulse) (l q : List Int) (e : clean p l = some q) : q.length ≤ l.length := by
  cases l with
  | nil => simp [clean] at e; simp [← e]
  | cons x l => have := cl_len p l _ _ _ _ _ e; simpa using this
theorem listOf_len (p : Pulse) (is : List Nat) : (listOf p is).length ≤ p.Times.length := by
  unfold listOf
  cases h : rd p is with
  | none => simp
  | some l =>
    have h1 := clean_len p _ _ h
    have h2 := less_len (fun j => is.contains j) p.Times 0
    simp; omega
theorem IndexL (aF : List Int → Unit → Option (Bool × Unit)) (f : List Int → Bool) : ∀ (l pre : List (List Int)) (m : Nat), (∀ x, x ∈ l → aF x () = some (f x, ())) → (pre ++ l).length < 1048576 → l.length < m →
    ∃ r, slices_IndexFunc_Lint_l1 (pre ++ l) aF m (pre.length : Int) () = some (r, ()) ∧ decide (r ≥ 0) = l.any f := by
  intro l
  induction l with
  | nil =>
    intro pre m hf hs hm
    obtain ⟨m, rfl⟩ : ∃ k, m = k + 1 := ⟨m - 1, by omega⟩
    exact ⟨-1, by simp [slices_IndexFunc_Lint_l1, slices_IndexFunc_Lint_l1_b, slices_IndexFunc_Lint_j1], by simp⟩
  | cons c l ih =>
    intro pre m hf hs hm
    obtain ⟨m, rfl⟩ : ∃ k, m = k + 1 := ⟨m - 1, by omega⟩
    obtain ⟨r, h1, h2⟩ := ih (pre ++ [c]) m (fun x hx => hf x (List.mem_cons_of_mem _ hx)) (by simpa using hs) (by simp at hm; omega)
    rw [show (((pre ++ [c]).length : Nat) : Int) = (pre.length : Int) + 1 by simp, show pre ++ [c] ++ l = pre ++ c :: l by simp] at h1
    simp at hs hm
    simp only [slices_IndexFunc_Lint_l1, slices_IndexFunc_Lint_l1_b]
    rw [if_pos (by simp <;> omega), idx_mid]
    simp only [Option.bind_some, hf c (by simp)]
    by_cases hb : f c = true
    · exact ⟨pre.length, by simp [hb], by simp [hb]⟩
    · refine ⟨r, ?_, by rw [h2]; simp [hb]⟩
      rw [w64_id (by omega) (by omega), if_neg hb]
      exact h1
theorem ContainsL {n : Nat} (r : Reading_) (L : List (List Int)) (hl : ∀ x, x ∈ L → x.length < 1000) (hs : L.length < 1048576) (hn : L.length < n) (hn' : 1000 ≤ n) :
    slices_ContainsFunc_Lint n (fun (x0 : List Int) (_ : Unit) => (pulses_lists_c1 n x0 r).map fun y => (y, ())) L () = some (decide (r.list ∈ L), ()) := by
  obtain ⟨v, h1, h2⟩ := IndexL (fun (x0 : List Int) (_ : Unit) => (pulses_lists_c1 n x0 r).map fun y => (y, ())) (fun x => decide (x = r.list)) L [] n (fun x hx => by
    have := hl x hx
    simp [pulses_lists_c1, Equal_eq x r.list (by omega) (show x.length < n by omega)]) (by simpa using hs) hn
  have h1 : slices_IndexFunc_Lint n _ L () = some (v, ()) := h1
  simp only [slices_ContainsFunc_Lint, h1, Option.bind_some, h2]
  congr 2
  by_cases hm : r.list ∈ L
  · simp only [hm, decide_true, List.any_eq_true]
    exact ⟨_, hm, by simp⟩
  · simp only [hm, decide_false, List.any_eq_false]
    intro x hx
    simp only [decide_eq_true_eq]
    intro e
    exact hm (e ▸ hx)
theorem lists_eq {n : Nat} (L : List Reading_) (hl : ∀ x, x ∈ L → x.list.length < 1000) (hs : L.length < 1000000) (hn : L.length < n) (hn' : 1000 ≤ n) :
    pulses_lists n L = some (firsts [] (L.map (·.list))) := by
  have key : ∀ (l pre : List Reading_) (m : Nat) (out : List (List Int)), L = pre ++ l → l.length < m → (∀ x, x ∈ out → x.length < 1000) → out.length ≤ pre.length →
      pulses_lists_l1 n L m out (pre.length : Int) = some (firsts out (l.map (·.list))) := by
    intro l
    induction l with
    | nil =>
      intro pre m out he hm ho hlen
      obtain ⟨m, rfl⟩ : ∃ k, m = k + 1 := ⟨m - 1, by omega⟩
      simp only [pulses_lists_l1, pulses_lists_l1_b, pulses_lists_j1]
      rw [if_neg (by simp [he])]
      simp [firsts]
    | cons x l ih =>
      intro pre m out he hm ho hlen
      simp at hm
      have hl' : L.length = pre.length + (l.length + 1) := by simp [he]
      obtain ⟨m, rfl⟩ : ∃ k, m = k + 1 := ⟨m - 1, by omega⟩
      have hx := hl x (by simp [he])
      have hc : (((pre ++ [x]).length : Nat) : Int) = (pre.length : Int) + 1 := by simp
      simp only [pulses_lists_l1, pulses_lists_l1_b]
      rw [if_pos (by simp; omega), show idx L (pre.length : Int) = some x by rw [he, idx_mid]]
      simp only [Option.bind_some]
      rw [ContainsL x out ho (by omega) (by omega) hn']
      simp only [Option.bind_some, List.map_cons, firsts]
      by_cases hmem : x.list ∈ out
      · simp only [hmem, decide_true, Bool.not_true, Bool.false_eq_true, if_false, if_true, pulses_lists_j2]
        rw [w64_id (by omega) (by omega)]
        have h := ih (pre ++ [x]) m out (by simp [he]) (by omega) ho (by simp; omega)
        rw [hc] at h
        exact h
      · simp only [hmem, decide_false, Bool.not_false, if_true, if_false, pulses_lists_j2]
        rw [app_ok (by simp; omega)]
        simp only [Option.bind_some]
        rw [w64_id (by omega) (by omega)]
        have h := ih (pre ++ [x]) m (out ++ [x.list]) (by simp [he]) (by omega) (fun y hy => by
          rcases List.mem_append.1 hy with hy | hy
          · exact ho y hy
          · rw [List.mem_singleton] at hy; subst hy; exact hx) (by simp; omega)
        rw [hc] at h
        exact h
  exact key L [] n [] rfl hn (by simp) (by simp)
end Go.Law
