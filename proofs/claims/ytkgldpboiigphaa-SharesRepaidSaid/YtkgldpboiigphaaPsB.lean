/-
  Plain laws about the functions of shares: orders, the best one, and the loan.
  Conditions: none.
-/
import Derived.Test.YtkgldpboiigphaaPsA
set_option linter.all false
namespace Go.Law
open Go Go.AM
set_option linter.unusedVariables false
set_option linter.unusedSimpArgs false

/-! ### Is a number in a list -/
theorem Index_eq (x : Int) : ∀ (l pre : List Int) (m : Nat), (pre ++ l).length < 1048576 → l.length < m → ∃ r, slices_Index_int_l1 (pre ++ l) x m (pre.length : Int) = some r ∧ decide (r ≥ 0) = l.contains x := by
  intro l
  induction l with
  | nil =>
    intro pre m hs hm
    obtain ⟨m, rfl⟩ : ∃ k, m = k + 1 := ⟨m - 1, by omega⟩
    refine ⟨-1, ?_, by simp⟩
    simp [slices_Index_int_l1, slices_Index_int_l1_b, slices_Index_int_j1]
  | cons c l ih =>
    intro pre m hs hm
    simp at hs hm
    obtain ⟨m, rfl⟩ : ∃ k, m = k + 1 := ⟨m - 1, by omega⟩
    simp only [slices_Index_int_l1, slices_Index_int_l1_b]
    rw [if_pos (by simp; omega)]
    simp only [idx_mid, Option.bind_some]
    by_cases hb : x = c
    · exact ⟨pre.length, by simp [hb], by simp [hb]⟩
    · obtain ⟨r, h1, h2⟩ := ih (pre ++ [c]) m (by simp; omega) (by omega)
      refine ⟨r, ?_, by rw [h2]; simp [hb]⟩
      rw [w64_id (by omega) (by omega), if_neg (by simpa using hb)]
      simpa using h1
theorem Contains_eq {n : Nat} {l : List Int} (x : Int) (hs : l.length < 1048576) (hn : l.length < n) : slices_Contains_int n l x = some (l.contains x) := by
  obtain ⟨r, h1, h2⟩ := Index_eq x l [] n (by simpa using hs) hn
  have h1 : slices_Index_int n l x = some r := h1
  simp only [slices_Contains_int, h1, Option.bind_some, h2]
theorem In_eq {n : Nat} {l : List Int} (x : Int) (hs : l.length < 1048576) (hn : l.length < n) : ref01_In n l x = some (l.contains x) := by
  have key : ∀ (k pre : List Int) (m : Nat), l = pre ++ k → k.length < m → ref01_In_l1 l x m (pre.length : Int) = some (k.contains x) := by
    intro k
    induction k with
    | nil =>
      intro pre m he hm
      obtain ⟨m, rfl⟩ : ∃ k, m = k + 1 := ⟨m - 1, by omega⟩
      simp [ref01_In_l1, ref01_In_l1_b, ref01_In_j1, he]
    | cons y k ih =>
      intro pre m he hm
      simp at hm
      have hl : l.length = pre.length + (k.length + 1) := by simp [he]
      obtain ⟨m, rfl⟩ : ∃ k, m = k + 1 := ⟨m - 1, by omega⟩
      have h := ih (pre ++ [y]) m (by simp [he]) (by omega)
      simp only [ref01_In_l1, ref01_In_l1_b]
      rw [if_pos (by simp; omega), show idx l (pre.length : Int) = some y by rw [he, idx_mid], w64_id (by omega) (by omega)]
      simp only [Option.bind_some]
      by_cases hb : y = x
      · simp [hb]
      · rw [if_neg (by simpa using hb)]
        have hb' : ¬ x = y := fun e => hb e.symm
        simpa [hb'] using h
  exact key l [] n rfl hn

/-! ### All orders -/
def ints (n : Nat) : List Int := (List.range n).map (fun (i : Nat) => (i : Int))
theorem mem_ints {n : Nat} {x : Int} : x ∈ ints n ↔ 0 ≤ x ∧ x < n := by
  unfold ints
  simp only [List.mem_map, List.mem_range]
  constructor
  · rintro ⟨i, hi, rfl⟩; omega
  · rintro ⟨h0, h1⟩; exact ⟨x.toNat, by omega, by omega⟩
/-- All orders of many numbers that begin with some, k more. -/
def perms (many : Nat) : Nat → List Int → List (List Int)
  | 0, first => [first]
  | k + 1, first => (ints many).flatMap fun x => if first.contains x then [] else perms many k (first ++ [x])
/-- The rest of the numbers from a on. -/
def upto (a : Nat) : Nat → List Int
  | 0 => []
  | k + 1 => (a : Int) :: upto (a + 1) k
theorem upto_eq : ∀ (k a : Nat), upto a k = (List.range' a k).map (fun (i : Nat) => (i : Int))
  | 0, _ => rfl
  | k + 1, a => by simp [upto, upto_eq k (a + 1), List.range'_succ]
theorem ints_upto (n : Nat) : ints n = upto 0 n := by
  rw [upto_eq, ints, List.range_eq_range']
theorem perms_len {many : Nat} (P : Nat → Prop) : ∀ (k : Nat) (first : List Int), (perms many k first).length ≤ many ^ k := by
  intro k
  induction k with
  | zero => intro first; simp [perms]
  | succ k ih =>
    intro first
    simp only [perms]
    have : ∀ l : List Int, (l.flatMap fun x => if first.contains x then [] else perms many k (first ++ [x])).length ≤ l.length * many ^ k := by
      intro l
      induction l with
      | nil => simp
      | cons x l ih2 =>
        simp only [List.flatMap_cons, List.length_append, List.length_cons]
        have h1 : (if first.contains x then [] else perms many k (first ++ [x])).length ≤ many ^ k := by
          split
          · simp
          · exact ih _
        rw [Nat.succ_mul]
        omega
    have h := this (ints many)
    rw [show (ints many).length = many by simp [ints]] at h
    rw [Nat.pow_succ, Nat.mul_comm]
    exact h
theorem perms_mem {many : Nat} : ∀ (k : Nat) (first l : List Int), (∀ x ∈ first, 0 ≤ x ∧ x < many) → l ∈ perms many k first → l.length = first.length + k ∧ ∀ x ∈ l, 0 ≤ x ∧ x < many := by
  intro k
  induction k with
  | zero =>
    intro first l hf hl
    simp [perms] at hl
    subst hl
    exact ⟨rfl, hf⟩
  | succ k ih =>
    intro first l hf hl
    simp only [perms, List.mem_flatMap] at hl
    obtain ⟨x, hx, hl⟩ := hl
    split at hl
    · simp at hl
    · have := ih (first ++ [x]) l (fun y hy => by
        rcases List.mem_append.1 hy with h | h
        · exact hf y h
        · simp at h; subst h; exact mem_ints.1 hx) hl
      refine ⟨?_, this.2⟩
      rw [this.1]; simp; omega
theorem orders_eq {S : Type} (f : List Int → S → Option (Bool × S)) (g : S → List Int → S) (Pr : S → Prop) {many : Nat} (hm5 : many ≤ 1000)
    (hf : ∀ (l : List Int) st, l.length = many → (∀ x ∈ l, 0 ≤ x ∧ x < (many : Int)) → Pr st → f l st = some (true, g st l) ∧ Pr (g st l)) :
    ∀ (k n : Nat) (first : List Int) (st : S), first.length + k = many → (∀ x ∈ first, 0 ≤ x ∧ x < many) → Pr st → many + k + 1 < n →
      shares_orders f n many first st = some (true, (perms many k first).foldl g st) ∧ Pr ((perms many k first).foldl g st) := by
  intro k
  induction k with
  | zero =>
    intro n first st hl hx hp hn
    obtain ⟨n, rfl⟩ : ∃ k, n = k + 1 := ⟨n - 1, by omega⟩
    simp only [shares_orders, shares_orders_b]
    obtain ⟨h1, h2⟩ := hf first st (by omega) hx hp
    rw [if_pos (by simp; omega), h1]
    exact ⟨rfl, h2⟩
  | succ k ih =>
    intro n first st hl hx hp hn
    obtain ⟨n, rfl⟩ : ∃ k, n = k + 1 := ⟨n - 1, by omega⟩
    simp only [shares_orders, shares_orders_b]
    rw [if_neg (by simp; omega)]
    have key : ∀ (j a m : Nat) (st : S), a + j = many → j < m → Pr st →
        shares_orders_l1 n (shares_orders f n) many first m (a : Int) st = some (true, ((upto a j).flatMap fun x => if first.contains x then [] else perms many k (first ++ [x])).foldl g st) ∧
        Pr (((upto a j).flatMap fun x => if first.contains x then [] else perms many k (first ++ [x])).foldl g st) := by
      intro j
      induction j with
      | zero =>
        intro a m st ha hm hp
        obtain ⟨m, rfl⟩ : ∃ k, m = k + 1 := ⟨m - 1, by omega⟩
        simp only [shares_orders_l1, shares_orders_l1_b]
        rw [if_neg (by simp; omega)]
        exact ⟨rfl, hp⟩
      | succ j ih2 =>
        intro a m st ha hm hp
        obtain ⟨m, rfl⟩ : ∃ k, m = k + 1 := ⟨m - 1, by omega⟩
        simp only [shares_orders_l1, shares_orders_l1_b]
        rw [if_pos (by simp; omega), Contains_eq _ (by omega) (by omega)]
        simp only [Option.bind_some, upto, List.flatMap_cons, List.foldl_append, slices_Clone_int, shares_orders_j2]
        rw [w64_id (by omega) (by omega)]
        have c1 : (a : Int) + 1 = ((a + 1 : Nat) : Int) := by omega
        rw [c1]
        by_cases hc : first.contains (a : Int) = true
        · rw [if_neg (by rw [hc]; decide), if_neg (by decide), if_pos hc]
          exact ih2 (a + 1) m st (by omega) (by omega) hp
        · rw [if_pos (by simpa using hc), if_neg hc, app_ok (by simp; omega)]
          simp only [Option.bind_some, List.nil_append]
          rw [app_ok (by simp; omega)]
          simp only [Option.bind_some]
          obtain ⟨h1, h2⟩ := ih n (first ++ [(a : Int)]) st (by simp; omega) (fun y hy => by
            rcases List.mem_append.1 hy with h | h
            · exact hx y h
            · simp at h; subst h; omega) hp (by omega)
          rw [h1]
          simp only [Option.bind_some, Bool.not_true, Bool.false_eq_true, if_false]
          exact ih2 (a + 1) m _ (by omega) (by omega) h2
    have h := key many 0 n st (by omega) (by omega) hp
    simp only [perms, ints_upto]
    exact h
theorem Orders_eq {many : Nat} (hm5 : many ≤ 5) :
    ∀ (k n : Nat) (first : List Int), first.length + k = many → many + k + 1 < n → ref09_Orders n many first = some (perms many k first) := by
  intro k
  induction k with
  | zero =>
    intro n first hl hn
    obtain ⟨n, rfl⟩ : ∃ k, n = k + 1 := ⟨n - 1, by omega⟩
    simp only [ref09_Orders, ref09_Orders_b]
    rw [if_pos (by simp; omega)]
    rfl
  | succ k ih =>
    intro n first hl hn
    obtain ⟨n, rfl⟩ : ∃ k, n = k + 1 := ⟨n - 1, by omega⟩
    simp only [ref09_Orders, ref09_Orders_b]
    rw [if_neg (by simp; omega)]
    have hpow : many ^ k ≤ 3125 := by
      calc many ^ k ≤ 5 ^ k := Nat.pow_le_pow_left hm5 k
        _ ≤ 5 ^ 5 := Nat.pow_le_pow_right (by omega) (by omega)
        _ = 3125 := by decide
    have key : ∀ (j a m : Nat) (out : List (List Int)), a + j = many → j < m → out.length ≤ 3125 * a →
        ref09_Orders_l1 n (ref09_Orders n) many first m out (a : Int) = some (out ++ ((upto a j).flatMap fun x => if first.contains x then [] else perms many k (first ++ [x]))) := by
      intro j
      induction j with
      | zero =>
        intro a m out ha hm ho
        obtain ⟨m, rfl⟩ : ∃ k, m = k + 1 := ⟨m - 1, by omega⟩
        simp only [ref09_Orders_l1, ref09_Orders_l1_b]
        rw [if_neg (by simp; omega)]
        simp [ref09_Orders_j1, upto]
      | succ j ih2 =>
        intro a m out ha hm ho
        obtain ⟨m, rfl⟩ : ∃ k, m = k + 1 := ⟨m - 1, by omega⟩
        simp only [ref09_Orders_l1, ref09_Orders_l1_b]
        rw [if_pos (by simp; omega), In_eq _ (by omega) (by omega)]
        simp only [Option.bind_some, upto, List.flatMap_cons, ref09_Orders_j2]
        rw [w64_id (by omega) (by omega)]
        have c1 : (a : Int) + 1 = ((a + 1 : Nat) : Int) := by omega
        rw [c1]
        have q1 : 3125 * (a + 1) = 3125 * a + 3125 := Nat.mul_succ 3125 a
        by_cases hc : first.contains (a : Int) = true
        · have q2 : out.length ≤ 3125 * (a + 1) := by rw [q1]; exact Nat.le_add_right_of_le ho
          rw [if_neg (by rw [hc]; decide), if_pos hc, ih2 (a + 1) m out (by omega) (by omega) q2, List.nil_append]
        · have hlen := perms_len (many := many) (fun _ => True) k (first ++ [(a : Int)])
          rw [if_pos (by simpa using hc), if_neg hc, app_ok (by simp; omega)]
          simp only [Option.bind_some, List.nil_append]
          rw [app_ok (by simp; omega)]
          simp only [Option.bind_some]
          rw [ih n (first ++ [(a : Int)]) (by simp; omega) (by omega)]
          simp only [Option.bind_some]
          have q2 : (out ++ perms many k (first ++ [(a : Int)])).length ≤ 3125 * (a + 1) := by
            rw [q1, List.length_append]; exact Nat.add_le_add ho (Nat.le_trans hlen hpow)
          have q3 : a ≤ 5 := by omega
          rw [app_ok (by rw [List.length_append] at q2; omega)]
          simp only [Option.bind_some]
          rw [ih2 (a + 1) m _ (by omega) (by omega) q2, List.append_assoc]
    have h := key many 0 n [] (by omega) (by omega) (Nat.zero_le _)
    simp only [perms, ints_upto]
    rw [List.nil_append] at h
    exact h

/-! ### Ordered clauses -/
def pick (l : List Clause) (order : List Int) : List Clause := order.map fun x => l[x.toNat]?.getD default
theorem idx_pick {l : List Clause} {x : Int} (h : 0 ≤ x ∧ x < l.length) : idx l x = some (l[x.toNat]?.getD default) := by
  unfold idx
  rw [if_pos h.1, List.getElem?_eq_getElem (by omega)]
  rfl
theorem pick_ok {l : List Clause} {order : List Int} (hl : ∀ c ∈ l, okC c = true) (ho : ∀ x ∈ order, 0 ≤ x ∧ x < l.length) : ∀ c ∈ pick l order, okC c = true := by
  intro c hc
  simp only [pick, List.mem_map] at hc
  obtain ⟨x, hx, rfl⟩ := hc
  have := ho x hx
  rw [List.getElem?_eq_getElem (by omega)]
  exact hl _ (List.getElem_mem _)
theorem Ordered_eq {n : Nat} {s : Share} {order : List Int} (ho : ∀ x ∈ order, 0 ≤ x ∧ x < s.Clauses.length) (hs : order.length < 1048576) (hn : order.length < n) :
    ref09_Ordered n s order = some ⟨pick s.Clauses order, s.Loan⟩ := by
  have key : ∀ (k pre : List Int) (m : Nat) (out : List Clause), order = pre ++ k → k.length < m → out.length = pre.length → ref09_Ordered_l1 s order m (pre.length : Int) out = some ⟨out ++ pick s.Clauses k, s.Loan⟩ := by
    intro k
    induction k with
    | nil =>
      intro pre m out he hm hout
      obtain ⟨m, rfl⟩ : ∃ k, m = k + 1 := ⟨m - 1, by omega⟩
      simp [ref09_Ordered_l1, ref09_Ordered_l1_b, ref09_Ordered_j1, he, pick]
    | cons x k ih =>
      intro pre m out he hm hout
      simp at hm
      have hl : order.length = pre.length + (k.length + 1) := by simp [he]
      obtain ⟨m, rfl⟩ : ∃ k, m = k + 1 := ⟨m - 1, by omega⟩
      have hx := ho x (by simp [he])
      have h := ih (pre ++ [x]) m (out ++ [s.Clauses[x.toNat]?.getD default]) (by simp [he]) (by omega) (by simp [hout])
      simp only [ref09_Ordered_l1, ref09_Ordered_l1_b]
      rw [if_pos (by simp; omega), show idx order (pre.length : Int) = some x by rw [he, idx_mid], w64_id (by omega) (by omega)]
      simp only [Option.bind_some]
      rw [idx_pick hx]
      simp only [Option.bind_some]
      rw [app_ok (by simp; omega)]
      simpa [pick] using h
  exact key order [] n [] rfl hn rfl
theorem Best_c1_eq {n : Nat} {order : List Int} {st : Share × Int × Int × List Int} (hst : okS st.1 = true) (ht : 0 ≤ st.2.1 ∧ st.2.1 ≤ 9999) (ho : ∀ x ∈ order, 0 ≤ x ∧ x < st.1.Clauses.length) (hs : order.length < 1000) (hn : order.length < n) :
    shares_Best_c1 n order st = some (true, if (setl (pick st.1.Clauses order) st.1.Loan st.2.1 0).1.Split.Owner > st.2.2.1 then (st.1, st.2.1, (setl (pick st.1.Clauses order) st.1.Loan st.2.1 0).1.Split.Owner, order) else st) := by
  obtain ⟨h5, hok, hlo⟩ := (okS_iff _).1 hst
  have key : ∀ (k pre : List Int) (m : Nat) (out : List Clause), order = pre ++ k → k.length < m → out.length = pre.length →
      shares_Best_c1_l1 n order st m out (pre.length : Int) = shares_Best_c1_j1 n order st (out ++ pick st.1.Clauses k) := by
    intro k
    induction k with
    | nil =>
      intro pre m out he hm hout
      obtain ⟨m, rfl⟩ : ∃ k, m = k + 1 := ⟨m - 1, by omega⟩
      simp only [shares_Best_c1_l1, shares_Best_c1_l1_b]
      rw [if_neg (by simp [he])]
      simp [pick]
    | cons x k ih =>
      intro pre m out he hm hout
      simp at hm
      have hl : order.length = pre.length + (k.length + 1) := by simp [he]
      obtain ⟨m, rfl⟩ : ∃ k, m = k + 1 := ⟨m - 1, by omega⟩
      have hx := ho x (by simp [he])
      have h := ih (pre ++ [x]) m (out ++ [st.1.Clauses[x.toNat]?.getD default]) (by simp [he]) (by omega) (by simp [hout])
      simp only [shares_Best_c1_l1, shares_Best_c1_l1_b]
      rw [if_pos (by simp; omega), show idx order (pre.length : Int) = some x by rw [he, idx_mid], w64_id (by omega) (by omega)]
      simp only [Option.bind_some]
      rw [idx_pick hx]
      simp only [Option.bind_some]
      rw [app_ok (by simp; omega)]
      simpa [pick] using h
  have h : shares_Best_c1_l1 n order st n [] 0 = _ := key order [] n [] rfl hn rfl
  unfold shares_Best_c1
  rw [h]
  unfold shares_Best_c1_j1 shares_Best_c1_j2
  rw [List.nil_append, owners_eq (pick_ok hok ho) (by simp [pick]; omega) (by simp [pick]; omega) hlo ht]
  simp only [Option.bind_some, decide_eq_true_eq]
  split <;> rfl

/-! ### The best order -/
def own (s : Share) (t : Int) (order : List Int) : Int := (setl (pick s.Clauses order) s.Loan t 0).1.Split.Owner
/-- The most, and the order of it, over a list of orders. -/
def best (s : Share) (t : Int) (l : List (List Int)) (st : Int × List Int) : Int × List Int :=
  l.foldl (fun st order => if own s t order > st.1 then (own s t order, order) else st) st
theorem best_fold (s : Share) (t : Int) : ∀ (l : List (List Int)) (st : Int × List Int),
    l.foldl (fun (q : Share × Int × Int × List Int) order => if (setl (pick q.1.Clauses order) q.1.Loan q.2.1 0).1.Split.Owner > q.2.2.1 then (q.1, q.2.1, (setl (pick q.1.Clauses order) q.1.Loan q.2.1 0).1.Split.Owner, order) else q) (s, t, st.1, st.2) =
      (s, t, (best s t l st).1, (best s t l st).2) := by
  intro l
  induction l with
  | nil => intro st; rfl
  | cons o l ih =>
    intro st
    simp only [List.foldl_cons, best]
    by_cases h : own s t o > st.1
    · rw [if_pos h, if_pos (show (setl (pick s.Clauses o) s.Loan t 0).1.Split.Owner > st.1 from h)]
      exact ih (own s t o, o)
    · rw [if_neg h, if_neg (show ¬ (setl (pick s.Clauses o) s.Loan t 0).1.Split.Owner > st.1 from h)]
      exact ih st
/-- What Best returns. -/
def bestOf (s : Share) (t : Int) : List Int := (best s t (perms s.Clauses.length s.Clauses.length []) (-1, [])).2
theorem Best_eq {n : Nat} (hn : 20 ≤ n) (s : Share) (t : Int) :
    shares_Best n s t = some (if okS s then (if inR t 0 9999 then (bestOf s t, 0) else ([], 1)) else ([], 90)) := by
  unfold shares_Best
  rw [isCents_eq]
  simp only [Option.bind_some]
  rw [ask_eq (by omega)]
  simp only [Option.bind_some]
  by_cases hs : okS s = true
  · simp only [hs, if_true]
    by_cases ht : inR t 0 9999 = true
    · simp only [ht, if_true, bne_self_eq_false, Bool.false_eq_true, if_false]
      obtain ⟨h5, hok, hlo⟩ := (okS_iff _).1 hs
      have htt := inR_iff.1 ht
      obtain ⟨h1, -⟩ := orders_eq (shares_Best_c1 n) (fun q order => if (setl (pick q.1.Clauses order) q.1.Loan q.2.1 0).1.Split.Owner > q.2.2.1 then (q.1, q.2.1, (setl (pick q.1.Clauses order) q.1.Loan q.2.1 0).1.Split.Owner, order) else q)
        (fun q => q.1 = s ∧ q.2.1 = t) (many := s.Clauses.length) (by omega) (fun l st hl hx hp => by
          obtain ⟨hp1, hp2⟩ := hp
          refine ⟨Best_c1_eq (by rw [hp1]; exact hs) (by rw [hp2]; exact htt) (by rw [hp1]; exact hx) (by omega) (by omega), ?_⟩
          split
          · exact ⟨hp1, hp2⟩
          · exact ⟨hp1, hp2⟩) s.Clauses.length n [] (s, t, -1, []) (by simp) (by simp) ⟨rfl, rfl⟩ (by omega)
      rw [h1]
      have e := best_fold s t (perms s.Clauses.length s.Clauses.length []) (-1, [])
      dsimp only at e
      simp only [Option.bind_some]
      rw [e]
      rfl
    · simp [ht]
  · simp [hs]
theorem own_nn {s : Share} {t : Int} {order : List Int} (hs : okS s = true) (ht : 0 ≤ t ∧ t ≤ 9999) (ho : ∀ x ∈ order, 0 ≤ x ∧ x < s.Clauses.length) : 0 ≤ own s t order := by
  obtain ⟨h5, hok, hlo⟩ := (okS_iff _).1 hs
  exact (setl_wb (pick_ok hok ho) hlo.1 ht.1 (by omega)).ow
theorem perms_ne {many : Nat} : ∀ (k : Nat) (first : List Int), first.length + k = many → perms many k first ≠ [] := by
  intro k
  induction k with
  | zero => intro first _; simp [perms]
  | succ k ih =>
    intro first hl he
    have hex : ∃ x ∈ ints many, first.contains x = false := by
      refine Classical.byContradiction fun hno => ?_
      have hall : ∀ x ∈ ints many, x ∈ first := fun x hx => Classical.byContradiction fun h => hno ⟨x, hx, by simpa using h⟩
      have hnd : (ints many).Nodup := by
        unfold ints
        have h1 : (List.range many).Pairwise (· ≠ ·) := List.nodup_range
        exact List.pairwise_map.2 (h1.imp fun h e => h (by omega))
      have := List.Nodup.length_le_of_subset hnd hall
      simp [ints] at this
      omega
    obtain ⟨x, hx, hc⟩ := hex
    simp only [perms, List.flatMap_eq_nil_iff] at he
    have := he x hx
    rw [if_neg (by rw [hc]; decide)] at this
    exact ih _ (by simp; omega) this
theorem rBest_eq {n : Nat} (hn : 3200 ≤ n) (s : Share) (t : Int) :
    ref09_Best n s t = some (if okS s then (if inR t 0 9999 then (bestOf s t, 0) else ([], 1)) else ([], 90)) := by
  unfold ref09_Best
  rw [IsCents_eq]
  simp only [Option.bind_some]
  rw [rask_eq (by omega)]
  simp only [Option.bind_some]
  by_cases hs : okS s = true
  · simp only [hs, if_true]
    by_cases ht : inR t 0 9999 = true
    · simp only [ht, if_true, bne_self_eq_false, Bool.false_eq_true, if_false]
      obtain ⟨h5, hok, hlo⟩ := (okS_iff _).1 hs
      have htt := inR_iff.1 ht
      rw [show (([] : List Int)) = [] from rfl, Orders_eq (many := s.Clauses.length) h5 s.Clauses.length n [] (by simp) (by omega)]
      simp only [Option.bind_some]
      have hmem := fun l => perms_mem (many := s.Clauses.length) s.Clauses.length [] l (by simp)
      have hlen := perms_len (many := s.Clauses.length) (fun _ => True) s.Clauses.length []
      have hne := perms_ne (many := s.Clauses.length) s.Clauses.length [] (by simp)
      have hpow : s.Clauses.length ^ s.Clauses.length ≤ 3125 := by
        calc s.Clauses.length ^ s.Clauses.length ≤ 5 ^ s.Clauses.length := Nat.pow_le_pow_left h5 _
          _ ≤ 5 ^ 5 := Nat.pow_le_pow_right (by omega) (by omega)
          _ = 3125 := by decide
      unfold bestOf
      generalize perms s.Clauses.length s.Clauses.length [] = L at hmem hlen hne
      have key : ∀ (k pre : List (List Int)) (m : Nat) (bi most : Int) (bl : List Int), L = pre ++ k → k.length < m →
          ((pre = [] ∧ bi = 0 ∧ most = -1) ∨ (pre ≠ [] ∧ idx L bi = some bl)) →
          ref09_Best_l1 n s t L m bi most (pre.length : Int) = some ((best s t k (most, bl)).2, 0) := by
        intro k
        induction k with
        | nil =>
          intro pre m bi most bl he hm hcase
          obtain ⟨m, rfl⟩ : ∃ k, m = k + 1 := ⟨m - 1, by omega⟩
          simp only [ref09_Best_l1, ref09_Best_l1_b]
          rw [if_neg (by simp [he])]
          rcases hcase with ⟨h, -, -⟩ | ⟨h, hi⟩
          · subst h; simp at he; exact absurd he hne
          · simp [ref09_Best_j1, hi, best]
        | cons o k ih =>
          intro pre m bi most bl he hm hcase
          simp at hm
          have hl : L.length = pre.length + (k.length + 1) := by simp [he]
          obtain ⟨m, rfl⟩ : ∃ k, m = k + 1 := ⟨m - 1, by omega⟩
          obtain ⟨ho1, ho2⟩ := hmem o (by simp [he])
          simp at ho1
          have hio : idx L (pre.length : Int) = some o := by rw [he, idx_mid]
          simp only [ref09_Best_l1, ref09_Best_l1_b]
          rw [if_pos (by simp; omega), hio]
          simp only [Option.bind_some]
          rw [Ordered_eq ho2 (by omega) (by omega)]
          simp only [Option.bind_some]
          rw [Gone_eq (s := ⟨pick s.Clauses o, s.Loan⟩) (pick_ok hok ho2) (by simp [pick]; omega) (by simp [pick]; omega) hlo htt (by omega)]
          simp only [Option.bind_some, ref09_Best_j2, decide_eq_true_eq]
          rw [w64_id (by omega) (by omega)]
          have c1 : (pre.length : Int) + 1 = ((pre ++ [o]).length : Int) := by simp
          rw [c1]
          have hown : (setl (pick s.Clauses o) s.Loan t 0).1.Split.Owner = own s t o := rfl
          rw [hown]
          simp only [best, List.foldl_cons]
          by_cases h : own s t o > most
          · rw [if_pos h, if_pos h]
            exact ih (pre ++ [o]) m _ _ o (by simp [he]) (by omega) (.inr ⟨by simp, hio⟩)
          · rw [if_neg h, if_neg h]
            rcases hcase with ⟨h0, h1, h2⟩ | ⟨h0, hi⟩
            · have := own_nn hs htt ho2
              omega
            · exact ih (pre ++ [o]) m bi most bl (by simp [he]) (by omega) (.inr ⟨by simp, hi⟩)
      exact key L [] n 0 (-1) [] rfl (by omega) (.inl ⟨rfl, rfl, rfl⟩)
    · simp [ht]
  · simp [hs]

/-! ### The loan -/
def repd (l : List Clause) (t : Int) : Nat → Int → Int → Int × Int
  | 0, _, _ => (0, 3)
  | k + 1, owed, w => if owed = 0 then (w, 0) else repd l t k (setl l owed t 0).1.owed (w + 1)
def repOf (s : Share) (t : Int) : Int × Int := repd s.Clauses t 1001 s.Loan 0
theorem owed_le {l : List Clause} {owed t gift : Int} (hl : ∀ c ∈ l, okC c = true) (ho : 0 ≤ owed) (ht : 0 ≤ t) (hg : 0 ≤ gift) : 0 ≤ (setl l owed t gift).1.owed ∧ (setl l owed t gift).1.owed ≤ owed := by
  have := setl_wb hl ho ht hg
  obtain ⟨h1, h2, h3, h4, h5, h6, h7, h8⟩ := this
  omega
theorem Repaid_eq {n : Nat} (hn : 1010 ≤ n) (s : Share) (t : Int) :
    shares_Repaid n s t = some (if okS s then (if inR t 0 9999 then repOf s t else (0, 1)) else (0, 90)) := by
  unfold shares_Repaid
  rw [isCents_eq]
  simp only [Option.bind_some]
  rw [ask_eq (by omega)]
  simp only [Option.bind_some]
  by_cases hs : okS s = true
  · simp only [hs, if_true]
    by_cases ht : inR t 0 9999 = true
    · simp only [ht, if_true, bne_self_eq_false, Bool.false_eq_true, if_false]
      obtain ⟨h5, hok, hlo⟩ := (okS_iff _).1 hs
      have htt := inR_iff.1 ht
      have key : ∀ (k m : Nat) (owed w : Int), 0 ≤ w → w + k = 1001 → k < m → 0 ≤ owed ∧ owed ≤ 9999 → shares_Repaid_l1 n s t m owed w = some (repd s.Clauses t k owed w) := by
        intro k
        induction k with
        | zero =>
          intro m owed w hw0 hw hm ho
          obtain ⟨m, rfl⟩ : ∃ k, m = k + 1 := ⟨m - 1, by omega⟩
          simp only [shares_Repaid_l1, shares_Repaid_l1_b]
          rw [if_neg (by simp; omega)]
          rfl
        | succ k ih =>
          intro m owed w hw0 hw hm ho
          obtain ⟨m, rfl⟩ : ∃ k, m = k + 1 := ⟨m - 1, by omega⟩
          simp only [shares_Repaid_l1, shares_Repaid_l1_b]
          rw [if_pos (by simp; omega), w64_id (by omega) (by omega)]
          simp only [repd]
          by_cases h0 : owed = 0
          · rw [if_pos (by simp [h0]), if_pos h0]
          · rw [if_neg (by simp [h0]), if_neg h0, settle_eq hok (by omega) (by omega) ho htt (by omega)]
            simp only [Option.bind_some]
            have := owed_le (gift := 0) hok ho.1 htt.1 (by omega)
            exact ih m _ _ (by omega) (by omega) (by omega) (by omega)
      exact key 1001 n s.Loan 0 (by omega) (by omega) (by omega) hlo
    · simp [ht]
  · simp [hs]
theorem rRepaid_eq {n : Nat} (hn : 1010 ≤ n) (s : Share) (t : Int) :
    ref09_Repaid n s t = some (if okS s then (if inR t 0 9999 then repOf s t else (0, 1)) else (0, 90)) := by
  unfold ref09_Repaid
  rw [IsCents_eq]
  simp only [Option.bind_some]
  rw [rask_eq (by omega)]
  simp only [Option.bind_some]
  by_cases hs : okS s = true
  · simp only [hs, if_true]
    by_cases ht : inR t 0 9999 = true
    · simp only [ht, if_true, bne_self_eq_false, Bool.false_eq_true, if_false]
      obtain ⟨h5, hok, hlo⟩ := (okS_iff _).1 hs
      have htt := inR_iff.1 ht
      rw [Copy_eq s (by omega)]
      simp only [Option.bind_some]
      have key : ∀ (k m : Nat) (owed w : Int), 0 ≤ w → w + k = 1001 → k < m → 0 ≤ owed ∧ owed ≤ 9999 → ref09_Repaid_l1 n t s m w owed = some (repd s.Clauses t k owed w) := by
        intro k
        induction k with
        | zero =>
          intro m owed w hw0 hw hm ho
          obtain ⟨m, rfl⟩ : ∃ k, m = k + 1 := ⟨m - 1, by omega⟩
          simp only [ref09_Repaid_l1, ref09_Repaid_l1_b]
          rw [if_neg (by simp; omega)]
          rfl
        | succ k ih =>
          intro m owed w hw0 hw hm ho
          obtain ⟨m, rfl⟩ : ∃ k, m = k + 1 := ⟨m - 1, by omega⟩
          simp only [ref09_Repaid_l1, ref09_Repaid_l1_b]
          rw [if_pos (by simp; omega), w64_id (x := w + 1) (by omega) (by omega)]
          simp only [repd]
          by_cases h0 : owed = 0
          · rw [if_pos (by simp [h0]), if_pos h0]
          · rw [if_neg (by simp [h0]), if_neg h0, Gone_eq (s := ⟨s.Clauses, owed⟩) hok (by dsimp only; omega) (by dsimp only; omega) ho htt (by omega)]
            simp only [Option.bind_some]
            have := owed_le (gift := 0) hok ho.1 htt.1 (by omega)
            have hb := setl_wb (gift := 0) hok ho.1 htt.1 (by omega)
            obtain ⟨h1, h2, h3, h4, h5, h6, h7, h8⟩ := hb
            rw [w64_id (by omega) (by omega), show owed - (setl s.Clauses owed t 0).1.Split.Repaid = (setl s.Clauses owed t 0).1.owed by omega]
            exact ih m _ _ (by omega) (by omega) (by omega) (by omega)
      exact key 1001 n s.Loan 0 (by omega) (by omega) (by omega) hlo
    · simp [ht]
  · simp [hs]

/-! ### The law -/
theorem best_len {s : Share} {t : Int} : ∀ (l : List (List Int)) (st : Int × List Int), st.2.length ≤ 5 → (∀ o ∈ l, o.length ≤ 5) → (best s t l st).2.length ≤ 5 := by
  intro l
  induction l with
  | nil => intro st h _; exact h
  | cons o l ih =>
    intro st h hl
    simp only [best, List.foldl_cons]
    apply ih
    · split
      · exact hl o (List.mem_cons_self ..)
      · exact h
    · exact fun o ho => hl o (List.mem_cons_of_mem _ ho)
theorem bestOf_len {s : Share} {t : Int} (hs : s.Clauses.length ≤ 5) : (bestOf s t).length ≤ 5 := by
  apply best_len
  · simp
  · intro o ho
    have := (perms_mem (many := s.Clauses.length) s.Clauses.length [] o (by simp) ho).1
    simp at this
    omega
def exS : Share := ⟨[⟨1, 500, 0, 0⟩, ⟨2, 300, 0, 0⟩, ⟨4, 1000, 40, 60⟩, ⟨5, 450, 0, 0⟩], 700⟩
theorem Gift_eq {n : Nat} (hn : 10 ≤ n) (s : Share) (t gift : Int) :
    shares_Gift n s t gift = some (if okS s then (if inR t 0 9999 && inR gift 0 9999 then ((setl s.Clauses s.Loan t gift).1.Split, 0) else (⟨0, 0, 0⟩, 1)) else (⟨0, 0, 0⟩, 90)) := by
  have h : shares_Gift n s t gift = shares_Gift_j1 n s t gift (if okS s then (if inR t 0 9999 && inR gift 0 9999 then 0 else 1) else 90) := by
    unfold shares_Gift
    rw [isCents_eq, isCents_eq]
    simp only [Option.bind_some]
    rw [ask_eq (by omega), ask_eq (by omega)]
    cases inR t 0 9999 <;> cases inR gift 0 9999 <;> simp
  rw [h]
  unfold shares_Gift_j1
  by_cases hs : okS s = true
  · obtain ⟨h5, hok, hlo⟩ := (okS_iff _).1 hs
    by_cases ht : (inR t 0 9999 && inR gift 0 9999) = true
    · have ht2 := ht
      simp only [Bool.and_eq_true, inR_iff] at ht2
      simp only [hs, ht, if_true, bne_self_eq_false, Bool.false_eq_true, if_false]
      rw [settle_eq hok (by omega) (by omega) hlo ht2.1 (by omega)]
      rfl
    · simp [hs, ht]
  · simp [hs]
theorem Week_eq {n : Nat} (hn : 10 ≤ n) (s : Share) (t : Int) :
    shares_Week n s t = some (if okS s then (if inR t 0 9999 then ((setl s.Clauses s.Loan t 0).1.Split, 0) else (⟨0, 0, 0⟩, 1)) else (⟨0, 0, 0⟩, 90)) := by
  unfold shares_Week
  rw [Gift_eq hn]
  simp only [Option.bind_some, show inR 0 0 9999 = true from rfl, Bool.and_true]
theorem works_eq : law09_works 20000 = some true := by
  have h1 : law09_Example = some exS := rfl
  have hs : okS exS = true := by decide +kernel
  have ht : inR 2013 0 9999 = true := by decide +kernel
  have hg : inR 100 0 9999 = true := by decide +kernel
  have e1 : (setl exS.Clauses exS.Loan 2013 0).1.Split = ⟨1488, 525, 300⟩ := by decide +kernel
  have e2 : (setl exS.Clauses exS.Loan 2013 100).1.Split = ⟨1448, 565, 300⟩ := by decide +kernel
  have e3 : bestOf exS 2013 = [3, 2, 0, 1] := by decide +kernel
  have e4 : repOf exS 2013 = (3, 0) := by decide +kernel
  unfold law09_works
  rw [h1]
  simp only [Option.bind_some]
  rw [Week_eq (by omega), Best_eq (by omega), Repaid_eq (by omega), Gift_eq (by omega), hs, ht, hg, e1, e2, e3, e4]
  have hsame := SameInts_refl (n := 20000) [3, 2, 0, 1] (by simp) (by simp)
  simp only [Option.bind_some, if_true, Bool.and_self, beq_self_eq_true, hsame, law09_works_j1]
theorem law_SharesBest (s : Share) (t : Int) : law09_SharesBest 20000 s t = some true := by
  unfold law09_SharesBest
  rw [far_eq]
  simp only [Option.bind_some]
  by_cases hf : (s.Clauses.length : Int) > 40
  · rw [if_pos (by simpa using hf), works_eq]
    rfl
  · rw [if_neg (by simpa using hf), Copy_eq s (by omega)]
    simp only [Option.bind_some]
    rw [Best_eq (by omega), rBest_eq (by omega), Repaid_eq (by omega), rRepaid_eq (by omega)]
    simp only [Option.bind_some]
    have hlen : (if okS s = true then if inR t 0 9999 = true then (bestOf s t, (0 : Int)) else ([], 1) else ([], 90)).1.length ≤ 5 := by
      split
      · split
        · exact bestOf_len ((okS_iff s).1 (by assumption)).1
        · simp
      · simp
    rw [SameInts_refl _ (by omega) (by omega), same_refl s (by omega) (by omega), works_eq]
    simp [law09_SharesBest_j1]
end Go.Law
