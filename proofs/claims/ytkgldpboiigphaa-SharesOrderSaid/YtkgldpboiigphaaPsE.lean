/-
  Plain laws about the functions of shares: any order.
  Conditions: none.
-/
import Derived.Test.YtkgldpboiigphaaPsC
set_option linter.all false
namespace Go.Law
open Go Go.AM
/-- The first number in which two lists part is less in the first. -/
def lexlt (a b : List Int) : Prop := ∃ (p : List Int) (x y : Int) (a' b' : List Int), a = p ++ x :: a' ∧ b = p ++ y :: b' ∧ x < y
theorem perms_pre {many : Nat} : ∀ (k : Nat) (first l : List Int), l ∈ perms many k first → ∃ r, l = first ++ r
  | 0, first, l, h => by simp [perms] at h; exact ⟨[], by simp [h]⟩
  | k + 1, first, l, h => by
    simp only [perms, List.mem_flatMap] at h
    obtain ⟨x, _, h⟩ := h
    split at h
    · simp at h
    · obtain ⟨r, hr⟩ := perms_pre k _ l h
      exact ⟨x :: r, by simp [hr]⟩
theorem ints_sorted (n : Nat) : (ints n).Pairwise (· < ·) := by
  unfold ints
  exact List.pairwise_map.2 (List.pairwise_lt_range.imp fun h => by omega)
theorem flat_sorted {R : List Int → List Int → Prop} (f : Int → List (List Int)) : ∀ (l : List Int), l.Pairwise (· < ·) → (∀ x ∈ l, (f x).Pairwise R) → (∀ x ∈ l, ∀ y ∈ l, x < y → ∀ a ∈ f x, ∀ b ∈ f y, R a b) → (l.flatMap f).Pairwise R
  | [], _, _, _ => by simp
  | x :: l, hl, h1, h2 => by
    rw [List.flatMap_cons, List.pairwise_append]
    have hx := List.pairwise_cons.1 hl
    refine ⟨h1 x (List.mem_cons_self ..), flat_sorted f l hx.2 (fun y hy => h1 y (List.mem_cons_of_mem _ hy)) (fun y hy z hz => h2 y (List.mem_cons_of_mem _ hy) z (List.mem_cons_of_mem _ hz)), fun a ha b hb => ?_⟩
    obtain ⟨y, hy, hb⟩ := List.mem_flatMap.1 hb
    exact h2 x (List.mem_cons_self ..) y (List.mem_cons_of_mem _ hy) (hx.1 y hy) a ha b hb
theorem perms_sorted {many : Nat} : ∀ (k : Nat) (first : List Int), (perms many k first).Pairwise lexlt
  | 0, first => by simp [perms]
  | k + 1, first => by
    rw [perms]
    refine flat_sorted _ _ (ints_sorted many) (fun x _ => ?_) (fun x _ y _ hxy a ha b hb => ?_)
    · split
      · simp
      · exact perms_sorted k _
    · split at ha
      · simp at ha
      · split at hb
        · simp at hb
        · obtain ⟨r, rfl⟩ := perms_pre k _ a ha
          obtain ⟨q, rfl⟩ := perms_pre k _ b hb
          exact ⟨first, x, y, r, q, by simp, by simp, hxy⟩
theorem mem_perms {many : Nat} : ∀ (k : Nat) (first rest : List Int), rest.length = k → (first ++ rest).Nodup → (∀ x ∈ rest, x ∈ ints many) → first ++ rest ∈ perms many k first
  | 0, first, rest, h, _, _ => by
    have : rest = [] := List.eq_nil_of_length_eq_zero h
    subst this
    simp [perms]
  | k + 1, first, rest, h, hn, hm => by
    match rest, h with
    | x :: rest, h =>
      simp only [perms, List.mem_flatMap]
      refine ⟨x, hm x (List.mem_cons_self ..), ?_⟩
      have hx : first.contains x = false := by
        cases hc : first.contains x with
        | false => rfl
        | true =>
          have h1 : x ∈ first := by simpa using hc
          exact absurd rfl ((List.nodup_append.1 hn).2.2 x h1 x (List.mem_cons_self ..))
      rw [if_neg (by rw [hx]; decide)]
      have := mem_perms k (first ++ [x]) rest (by simpa using h) (by simpa using hn) (fun y hy => hm y (List.mem_cons_of_mem _ hy))
      simpa using this
theorem ints_nodup (n : Nat) : (ints n).Nodup := (ints_sorted n).imp fun h e => by omega
theorem order_ok {n : Nat} {order : List Int} (hl : order.length = n) (hc : ∀ x ∈ ints n, x ∈ order) : order.Nodup ∧ ∀ x ∈ order, x ∈ ints n := by
  have hlen : (ints n).length = n := by simp [ints]
  have key : ∀ (pre post : List Int) (x : Int), order = pre ++ x :: post → (x ∈ pre ++ post ∨ x ∉ ints n) → False := by
    intro pre post x he hx
    have hsub : ∀ y ∈ ints n, y ∈ pre ++ post := by
      intro y hy
      have := hc y hy
      rw [he] at this
      rcases List.mem_append.1 this with h | h
      · exact List.mem_append_left _ h
      · rcases List.mem_cons.1 h with h | h
        · subst h
          rcases hx with hx | hx
          · exact hx
          · exact absurd hy hx
        · exact List.mem_append_right _ h
    have := List.Nodup.length_le_of_subset (ints_nodup n) hsub
    have h2 : order.length = (pre ++ post).length + 1 := by rw [he]; simp; omega
    omega
  constructor
  · have : ∀ (post pre : List Int), order = pre ++ post → post.Nodup := by
      intro post
      induction post with
      | nil => intro _ _; exact List.nodup_nil
      | cons x post ih =>
        intro pre he
        refine List.nodup_cons.2 ⟨fun hx => key pre post x he (.inl (List.mem_append_right _ hx)), ih (pre ++ [x]) (by simp [he])⟩
    exact this order [] rfl
  · intro x hx
    obtain ⟨pre, post, he⟩ := List.append_of_mem hx
    exact Classical.byContradiction fun h => key pre post x he (.inr h)
theorem best_max {s : Share} {t : Int} : ∀ (l : List (List Int)) (st : Int × List Int), l.Pairwise lexlt → (∀ o ∈ l, lexlt st.2 o ∨ st.1 < own s t o) → (st.1 = own s t st.2 ∨ st.1 = -1) → (∀ o ∈ l, 0 ≤ own s t o) →
    st.1 ≤ (best s t l st).1 ∧ ((best s t l st) = st ∨ (best s t l st).2 ∈ l ∧ (best s t l st).1 = own s t (best s t l st).2) ∧
      ∀ o ∈ l, own s t o ≤ (best s t l st).1 ∧ (own s t o = (best s t l st).1 → o = (best s t l st).2 ∨ lexlt (best s t l st).2 o)
  | [], st, _, _, _, _ => ⟨Int.le_refl _, .inl rfl, by simp⟩
  | o :: l, st, hp, hf, hi, hn => by
    have hp' := List.pairwise_cons.1 hp
    have hb : best s t (o :: l) st = best s t l (if own s t o > st.1 then (own s t o, o) else st) := rfl
    rw [hb]
    have hn' : ∀ q ∈ l, 0 ≤ own s t q := fun q hq => hn q (List.mem_cons_of_mem _ hq)
    by_cases h : own s t o > st.1
    · rw [if_pos h]
      obtain ⟨q1, q2, q3⟩ := best_max l (own s t o, o) hp'.2 (fun q hq => .inl (hp'.1 q hq)) (.inl rfl) hn'
      dsimp only at q1
      refine ⟨by omega, ?_, fun q hq => ?_⟩
      · rcases q2 with q2 | q2
        · exact .inr ⟨by rw [q2]; exact List.mem_cons_self .., by rw [q2]⟩
        · exact .inr ⟨List.mem_cons_of_mem _ q2.1, q2.2⟩
      · rcases List.mem_cons.1 hq with rfl | hq
        · refine ⟨q1, fun e => ?_⟩
          rcases q2 with q2 | q2
          · rw [q2]; exact .inl rfl
          · exact Classical.byContradiction fun hno => by
              have := (q3 _ q2.1).1
              have hlt := hp'.1 _ q2.1
              clear hno
              -- the best one stands behind, and is as good: it was not taken
              have : ∀ (m : List (List Int)) (su : Int × List Int), own s t q = su.1 → (∀ z ∈ m, own s t z ≤ own s t q) → best s t m su = su := by
                intro m
                induction m with
                | nil => intro su _ _; rfl
                | cons z m ih =>
                  intro su he hz
                  have hz1 := hz z (List.mem_cons_self ..)
                  show best s t m (if own s t z > su.1 then (own s t z, z) else su) = su
                  rw [if_neg (by omega)]
                  exact ih su he (fun z' hz' => hz z' (List.mem_cons_of_mem _ hz'))
              have hfix := this l (own s t q, q) rfl (fun z hz => by have := (q3 z hz).1; omega)
              have hq2 := q2.1
              rw [hfix] at hq2
              rw [hfix] at hlt
              obtain ⟨p, x, y, a', b', e1, e2, hxy⟩ := hlt
              dsimp only at e2
              rw [e1] at e2
              have := List.append_cancel_left e2
              injection this with h1 _
              omega
        · exact q3 q hq
    · rw [if_neg h]
      obtain ⟨q1, q2, q3⟩ := best_max l st hp'.2 (fun q hq => hf q (List.mem_cons_of_mem _ hq)) hi hn'
      refine ⟨q1, ?_, fun q hq => ?_⟩
      · rcases q2 with q2 | q2
        · exact .inl q2
        · exact .inr ⟨List.mem_cons_of_mem _ q2.1, q2.2⟩
      · rcases List.mem_cons.1 hq with rfl | hq
        · refine ⟨by omega, fun e => ?_⟩
          have hst : lexlt st.2 q := by
            rcases hf q (List.mem_cons_self ..) with h' | h'
            · exact h'
            · exact absurd h' h
          rcases q2 with q2 | q2
          · rw [q2]; exact .inr hst
          · exact Classical.byContradiction fun hno => by
              have : ∀ (m : List (List Int)) (su : Int × List Int), own s t q = su.1 → (∀ z ∈ m, own s t z ≤ own s t q) → best s t m su = su := by
                intro m
                induction m with
                | nil => intro su _ _; rfl
                | cons z m ih =>
                  intro su he hz
                  have hz1 := hz z (List.mem_cons_self ..)
                  show best s t m (if own s t z > su.1 then (own s t z, z) else su) = su
                  rw [if_neg (by omega)]
                  exact ih su he (fun z' hz' => hz z' (List.mem_cons_of_mem _ hz'))
              have hfix := this l st (by omega) (fun z hz => by have := (q3 z hz).1; omega)
              exact hno (.inr (by rw [hfix]; exact hst))
        · exact q3 q hq
theorem mem_ints_cast {n : Nat} {i : Nat} (h : i < n) : (i : Int) ∈ ints n := mem_ints.2 ⟨by omega, by omega⟩
theorem IsOrder_eq {n : Nat} {s : Share} {order : List Int} (hs : s.Clauses.length < 1000) (ho : order.length < 1000) (hn : 2000 < n) :
    ref09_IsOrder n s order = some (decide ((∀ x ∈ ints s.Clauses.length, x ∈ order) ∧ order.length = s.Clauses.length)) := by
  have key : ∀ (j a m : Nat), a + j = s.Clauses.length → j < m → ref09_IsOrder_l1 n s order m (a : Int) = some (decide ((∀ x ∈ upto a j, x ∈ order) ∧ order.length = s.Clauses.length)) := by
    intro j
    induction j with
    | zero =>
      intro a m ha hm
      obtain ⟨m, rfl⟩ : ∃ k, m = k + 1 := ⟨m - 1, by omega⟩
      simp only [ref09_IsOrder_l1, ref09_IsOrder_l1_b]
      rw [if_neg (by simp; omega)]
      unfold ref09_IsOrder_j1
      by_cases h : order.length = s.Clauses.length
      · simp [upto, h]
      · have : ¬ (order.length : Int) = (s.Clauses.length : Int) := by omega
        simp [upto, h, this]
    | succ j ih =>
      intro a m ha hm
      obtain ⟨m, rfl⟩ : ∃ k, m = k + 1 := ⟨m - 1, by omega⟩
      simp only [ref09_IsOrder_l1, ref09_IsOrder_l1_b]
      rw [if_pos (by simp; omega), In_eq _ (by omega) (by omega), w64_id (by omega) (by omega)]
      simp only [Option.bind_some]
      have c1 : (a : Int) + 1 = ((a + 1 : Nat) : Int) := by omega
      rw [c1]
      by_cases hc : (a : Int) ∈ order
      · rw [if_neg (by simp [hc]), ih (a + 1) m (by omega) (by omega)]
        simp [upto, hc]
      · rw [if_pos (by simp [hc])]
        simp [upto, hc]
  have h : ref09_IsOrder_l1 n s order n 0 = _ := key s.Clauses.length 0 n (by omega) (by omega)
  unfold ref09_IsOrder
  rw [h, ints_upto]
theorem lex_loop {n : Nat} (l order : List Int) (r8 r10 : Split × Int) (hb : l.length < 1000) (hn : 1000 < n) (hlen : l.length = order.length) (hw : law09_works n = some true)
    (h : r8.1.Owner = r10.1.Owner → order = l ∨ lexlt l order) : law09_SharesOrder_l1 n order (l, 0) r8 r10 n 0 = some true := by
  by_cases he : r8.1.Owner = r10.1.Owner
  case neg =>
    obtain ⟨m, rfl⟩ : ∃ k, n = k + 1 := ⟨n - 1, by omega⟩
    simp only [law09_SharesOrder_l1, law09_SharesOrder_l1_b, law09_SharesOrder_j5, law09_SharesOrder_j4]
    rw [show (r8.1.Owner == r10.1.Owner) = false by simpa using he]
    split <;> simp [hw]
  have key : ∀ (k q pre : List Int) (m : Nat), l = pre ++ k → order = pre ++ q → k.length = q.length → k.length < m → (q = k ∨ lexlt k q) → law09_SharesOrder_l1 n order (l, 0) r8 r10 m (pre.length : Int) = some true := by
    intro k
    induction k with
    | nil =>
      intro q pre m h1 h2 h3 hm hx
      obtain ⟨m, rfl⟩ : ∃ k, m = k + 1 := ⟨m - 1, by omega⟩
      simp only [law09_SharesOrder_l1, law09_SharesOrder_l1_b, law09_SharesOrder_j5, law09_SharesOrder_j4]
      rw [if_neg (by simp [h1]), if_neg (by decide), hw]
      rfl
    | cons x k ih =>
      intro q pre m h1 h2 h3 hm hx
      match q, h3 with
      | y :: q, h3 =>
        simp at h3 hm
        have hl : l.length = pre.length + (k.length + 1) := by simp [h1]
        obtain ⟨m, rfl⟩ : ∃ k, m = k + 1 := ⟨m - 1, by omega⟩
        simp only [law09_SharesOrder_l1, law09_SharesOrder_l1_b, law09_SharesOrder_j5]
        rw [if_pos (by simp; omega), if_pos (by simp [he]), show idx l (pre.length : Int) = some x by rw [h1, idx_mid], show idx order (pre.length : Int) = some y by rw [h2, idx_mid]]
        simp only [Option.bind_some]
        by_cases hxy : x = y
        · subst hxy
          rw [if_neg (by simp), w64_id (by omega) (by omega)]
          have := ih q (pre ++ [x]) m (by simp [h1]) (by simp [h2]) h3 (by omega) (by
            rcases hx with hx | ⟨p, a, b, a', b', e1, e2, hab⟩
            · injection hx with _ hx; exact .inl hx
            · cases p with
              | nil => simp at e1 e2; omega
              | cons z p => simp at e1 e2; exact .inr ⟨p, a, b, a', b', e1.2, e2.2, hab⟩)
          simpa using this
        · have hlt : x < y := by
            rcases hx with hx | ⟨p, a, b, a', b', e1, e2, hab⟩
            · injection hx with hx _; exact absurd hx.symm hxy
            · cases p with
              | nil => simp at e1 e2; omega
              | cons z p => simp at e1 e2; omega
          rw [if_pos (by simpa using hxy), if_pos (by simpa using hlt), hw]
          rfl
  exact key l order [] n rfl rfl hlen (by omega) (h he)
theorem okS_pick {s : Share} {order : List Int} (hs : okS s = true) (hl : order.length ≤ 5) (ho : ∀ x ∈ order, 0 ≤ x ∧ x < s.Clauses.length) : okS ⟨pick s.Clauses order, s.Loan⟩ = true := by
  obtain ⟨h5, hok, hlo⟩ := (okS_iff _).1 hs
  exact (okS_iff _).2 ⟨by simpa [pick] using hl, pick_ok hok ho, hlo⟩
theorem law_SharesOrder (s : Share) (t : Int) (order : List Int) : law09_SharesOrder 20000 s t order = some true := by
  have hskip : law09_SharesOrder_j1 20000 s t order true = some true := by
    unfold law09_SharesOrder_j1
    rw [if_pos rfl, works_eq]
    rfl
  unfold law09_SharesOrder
  rw [isShare_eq (by omega)]
  simp only [Option.bind_some, IsCents_eq]
  by_cases hs : okS s = true
  case neg => simp [hs, hskip]
  by_cases h1 : inR t 0 9999 = true
  case neg => simp [hs, h1, hskip]
  simp only [hs, h1, Bool.not_true, Bool.false_eq_true, if_false]
  by_cases h40 : (order.length : Int) > 40
  · rw [if_pos (by simpa using h40)]
    exact hskip
  rw [if_neg (by simpa using h40)]
  obtain ⟨h5, hok, hlo⟩ := (okS_iff _).1 hs
  have b1 := inR_iff.1 h1
  rw [IsOrder_eq (by omega) (by omega) (by omega)]
  simp only [Option.bind_some]
  by_cases hord : (∀ x ∈ ints s.Clauses.length, x ∈ order) ∧ order.length = s.Clauses.length
  case neg => simp [hord, hskip]
  rw [decide_eq_true hord]
  obtain ⟨hnd, hin⟩ := order_ok hord.2 hord.1
  have hmem : order ∈ perms s.Clauses.length s.Clauses.length [] := by
    have := mem_perms (many := s.Clauses.length) s.Clauses.length [] order hord.2 (by simpa using hnd) hin
    simpa using this
  have hpm := fun o ho => perms_mem (many := s.Clauses.length) s.Clauses.length [] o (by simp) ho
  have hbm := best_max (s := s) (t := t) (perms s.Clauses.length s.Clauses.length []) (-1, []) (perms_sorted _ _) (fun o ho => .inr (by
    have := own_nn hs b1 (hpm o ho).2
    show (-1 : Int) < own s t o
    omega)) (.inr rfl) (fun o ho => own_nn hs b1 (hpm o ho).2)
  obtain ⟨q1, q2, q3⟩ := hbm
  have hq3 := q3 order hmem
  have hbo : (best s t (perms s.Clauses.length s.Clauses.length []) (-1, [])).2 = bestOf s t := rfl
  have hb2 : bestOf s t ∈ perms s.Clauses.length s.Clauses.length [] ∧ (best s t (perms s.Clauses.length s.Clauses.length []) (-1, [])).1 = own s t (bestOf s t) := by
    rcases q2 with q2 | q2
    · have := own_nn hs b1 (hpm order hmem).2
      rw [q2] at hq3
      have := hq3.1
      dsimp only at this
      omega
    · exact q2
  have hbl := hpm _ hb2.1
  rw [hb2.2, hbo] at hq3
  have hlen : (bestOf s t).length = s.Clauses.length := by simpa using hbl.1
  have hrange : ∀ x ∈ order, 0 ≤ x ∧ x < s.Clauses.length := fun x hx => mem_ints.1 (hin x hx)
  unfold law09_SharesOrder_j1
  rw [if_neg (by decide), Best_eq (by omega)]
  simp only [hs, h1, if_true, Option.bind_some]
  rw [if_neg (by decide), if_neg (by simp; omega), IsOrder_eq (by omega) (by omega) (by omega)]
  have hord2 : (∀ x ∈ ints s.Clauses.length, x ∈ bestOf s t) ∧ (bestOf s t).length = s.Clauses.length := by
    refine ⟨fun x hx => ?_, hlen⟩
    have hnd2 : (bestOf s t).Nodup := by
      have : ∀ (k : Nat) (first l : List Int), first.Nodup → l ∈ perms s.Clauses.length k first → l.Nodup := by
        intro k
        induction k with
        | zero => intro first l hf hl; simp [perms] at hl; subst hl; exact hf
        | succ k ih =>
          intro first l hf hl
          simp only [perms, List.mem_flatMap] at hl
          obtain ⟨x, _, hl⟩ := hl
          split at hl
          · simp at hl
          · rename_i hc
            refine ih (first ++ [x]) l (List.nodup_append.2 ⟨hf, by simp, fun a ha b hb => ?_⟩) hl
            simp at hb
            subst hb
            intro e
            subst e
            exact hc (by simpa using ha)
      exact this _ [] _ (by simp) hb2.1
    refine Classical.byContradiction fun hno => ?_
    have hsub : ∀ y ∈ x :: bestOf s t, y ∈ ints s.Clauses.length := fun y hy => by
      rcases List.mem_cons.1 hy with rfl | hy
      · exact hx
      · exact mem_ints.2 (hbl.2 y hy)
    have := List.Nodup.length_le_of_subset (List.nodup_cons.2 ⟨hno, hnd2⟩) hsub
    simp [ints, hlen] at this
    omega
  simp only [Option.bind_some]
  rw [decide_eq_true hord2]
  unfold law09_SharesOrder_j2
  rw [if_neg (by decide), Ordered_eq hrange (by omega) (by omega)]
  simp only [Option.bind_some]
  rw [Week_eq (by omega), okS_pick hs (by omega) hrange]
  simp only [h1, if_true, Option.bind_some]
  rw [Ordered_eq hbl.2 (by omega) (by omega)]
  simp only [Option.bind_some]
  rw [Week_eq (by omega), okS_pick hs (by omega) hbl.2]
  simp only [h1, if_true, Option.bind_some]
  rw [if_neg (by decide), if_neg (by decide)]
  have e1 : (setl (pick s.Clauses order) s.Loan t 0).1.Split.Owner = own s t order := rfl
  have e2 : (setl (pick s.Clauses (bestOf s t)) s.Loan t 0).1.Split.Owner = own s t (bestOf s t) := rfl
  rw [e1, e2, show decide (own s t order > own s t (bestOf s t)) = false by simpa using hq3.1]
  unfold law09_SharesOrder_j3
  rw [if_neg (by decide)]
  exact lex_loop (bestOf s t) order _ _ (by omega) (by omega) (by omega) works_eq hq3.2
end Go.Law
