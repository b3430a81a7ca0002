/-
  Plain laws about the functions of pulses: Lists and Read.
  Conditions: none.
-/
import Derived.Test.YtekplngjaddccaaPuS
set_option linter.all false
namespace Go.Law
open Go Go.AM

theorem good_len {p : Pulse} (hk : p.Sparks.toNat ≤ 3) (hl : p.Times.length ≤ 14) : (goodP p p.Sparks.toNat).length ≤ 13500 := by
  rw [← (good_perm p p.Sparks.toNat).length_eq]
  have h1 := sub_len14 (k := p.Sparks.toNat) (ps := spots p) hk (by simp [spots]; exact hl)
  have h2 : (goodR p p.Sparks.toNat).length ≤ (sub p.Sparks.toNat (spots p)).length := List.length_filter_le _ _
  omega
theorem openR_len {p : Pulse} (hf : valid p = true → p.Times.length ≤ 14) : (openR p).1.length ≤ 13500 := by
  unfold openR
  cases hv : valid p with
  | false => simp
  | true =>
    obtain ⟨v1, v2, v3, v4, v5, v6, v7, v8, v9⟩ := valid_iff hv
    simp only [if_true]
    split
    · simp
    · simp only [List.length_map]
      exact good_len (by omega) (hf hv)
theorem openR_list {p : Pulse} (hs : p.Times.length ≤ 40) : ∀ x, x ∈ (openR p).1 → x.list.length < 1000 := by
  intro x hx
  unfold openR at hx
  split at hx
  · split at hx
    · simp at hx
    · obtain ⟨is, _, rfl⟩ := List.mem_map.1 hx
      have := listOf_len p is
      simp only
      omega
  · simp at hx
theorem knownR_list {p : Pulse} (hs : p.Times.length ≤ 40) : ∀ x, x ∈ (knownR p).1 → x.List_.length < 1000 := by
  intro x hx
  unfold knownR at hx
  split at hx
  · split at hx
    · simp at hx
    · obtain ⟨is, _, rfl⟩ := List.mem_map.1 hx
      have := listOf_len p is
      simp only
      omega
  · simp at hx
theorem both_perm (p : Pulse) : ((knownR p).1.map (·.List_)).Perm ((openR p).1.map (·.list)) := by
  unfold knownR openR
  split
  · split
    · exact .refl _
    · simp only [List.map_map]
      exact (good_perm p p.Sparks.toNat).map _
  · exact .refl _
theorem both_err (p : Pulse) : (knownR p).2 = (openR p).2 := by
  unfold knownR openR
  split
  · split <;> rfl
  · rfl
theorem open_none {p : Pulse} (h : (openR p).2 = 0) : (openR p).1 ≠ [] := by
  unfold openR at h ⊢
  split at h
  · split at h
    · cases h
    · rename_i hv hg
      rw [if_pos hv, if_neg hg]
      simpa using hg
  · cases h
theorem Lists_eq {n : Nat} (p : Pulse) (hs : p.Times.length ≤ 40) (hf : valid p = true → p.Times.length ≤ 14) (hn : 15000 ≤ n) :
    pulses_Lists n p = some (((firsts [] ((openR p).1.map (·.list))).length : Int), (openR p).2) := by
  obtain ⟨s'', h⟩ := open_any (n := n) p (by omega) (by omega)
  have hl := openR_len hf
  unfold pulses_Lists
  rw [h]
  simp only [Option.bind_some]
  rw [lists_eq (openR p).1 (openR_list hs) (by omega) (by omega) (by omega)]
  rfl
theorem rLists_in {n : Nat} (rec1 : Int → Int → Option (Int × Int)) (r1 : List Reading × Int) (x : Reading) (post : List Reading) (pre : List Reading) (he : r1.1 = pre ++ x :: post) (hl : ∀ x, x ∈ r1.1 → x.List_.length < 1000) (hs : r1.1.length < 1000000) (hn' : 1000 ≤ n) (v3 : Int) :
    ∀ (p2 p1 : List Reading) (m : Nat) (f : Bool), pre = p1 ++ p2 → p2.length < m → ref13_Lists_l2 n rec1 r1 v3 (pre.length : Int) m f (p1.length : Int) = ref13_Lists_j3 rec1 v3 (pre.length : Int) (f && decide (x.List_ ∉ p2.map (·.List_))) := by
  intro p2
  induction p2 with
  | nil =>
    intro p1 m f hp hm
    obtain ⟨m, rfl⟩ : ∃ k, m = k + 1 := ⟨m - 1, by omega⟩
    simp only [ref13_Lists_l2, ref13_Lists_l2_b]
    rw [if_neg (by simp [hp])]
    simp
  | cons y p2 ih =>
    intro p1 m f hp hm
    simp at hm
    have hll : r1.1.length = pre.length + (post.length + 1) := by simp [he]
    have hpl : pre.length = p1.length + (p2.length + 1) := by simp [hp]
    obtain ⟨m, rfl⟩ : ∃ k, m = k + 1 := ⟨m - 1, by omega⟩
    have hc : (((p1 ++ [y]).length : Nat) : Int) = (p1.length : Int) + 1 := by simp
    have h := fun f => ih (p1 ++ [y]) m f (by simp [hp]) (by omega)
    simp only [hc] at h
    have hy := hl y (by simp [he, hp])
    simp only [ref13_Lists_l2, ref13_Lists_l2_b]
    rw [if_pos (by simp; omega)]
    have e1 : idx r1.1 (p1.length : Int) = some y := by
      rw [he, hp, List.append_assoc, List.cons_append, idx_mid]
    have e2 : idx r1.1 (pre.length : Int) = some x := by rw [he, idx_mid]
    cases f with
    | false =>
      simp only [Bool.false_eq_true, if_false, ref13_Lists_j4]
      rw [w64_id (by omega) (by omega), h]
      simp
    | true =>
      simp only [if_true, e1, e2, Option.bind_some]
      rw [SameInts_eq y.List_ x.List_ (by omega) (by omega)]
      simp only [Option.bind_some, ref13_Lists_j4]
      rw [w64_id (by omega) (by omega), h]
      congr 1
      by_cases e : y.List_ = x.List_
      · simp [e]
      · have e' : ¬ x.List_ = y.List_ := fun h => e h.symm
        simp [e, e']
theorem rLists_eq {n : Nat} (p : Pulse) (hs : p.Times.length ≤ 40) (hf : valid p = true → p.Times.length ≤ 14) (hn : 15000 ≤ n) :
    ref13_Lists n p = some (((firsts [] ((openR p).1.map (·.list))).length : Int), (openR p).2) := by
  unfold ref13_Lists
  rw [known_any p hs hf hn]
  simp only [Option.bind_some]
  have hl := openR_len hf
  have hlen : (knownR p).1.length ≤ 13500 := by
    have := (both_perm p).length_eq
    simp at this
    omega
  have hll := knownR_list hs
  rw [← (firsts_perm (both_perm p)).length_eq, ← both_err]
  generalize knownR p = r1 at hlen hll ⊢
  have key : ∀ (l pre : List Reading) (m : Nat) (out : List (List Int)), r1.1 = pre ++ l → l.length < m → (∀ y, y ∈ out ↔ y ∈ pre.map (·.List_)) → out.length ≤ pre.length →
      ref13_Lists_l1 n r1 m (out.length : Int) (pre.length : Int) = some (((firsts out (l.map (·.List_))).length : Int), r1.2) := by
    intro l
    induction l with
    | nil =>
      intro pre m out he hm ho hol
      obtain ⟨m, rfl⟩ : ∃ k, m = k + 1 := ⟨m - 1, by omega⟩
      simp only [ref13_Lists_l1, ref13_Lists_l1_b, ref13_Lists_j1]
      rw [if_neg (by simp [he])]
      simp [firsts]
    | cons x l ih =>
      intro pre m out he hm ho hol
      simp at hm
      have hl' : r1.1.length = pre.length + (l.length + 1) := by simp [he]
      obtain ⟨m, rfl⟩ : ∃ k, m = k + 1 := ⟨m - 1, by omega⟩
      have hc : (((pre ++ [x]).length : Nat) : Int) = (pre.length : Int) + 1 := by simp
      simp only [ref13_Lists_l1, ref13_Lists_l1_b]
      rw [if_pos (by simp; omega)]
      have hin := rLists_in (ref13_Lists_l1 n r1 m) r1 x l pre he hll (by omega) (show 1000 ≤ n by omega) (out.length : Int) pre [] n true rfl (by omega)
      rw [show ref13_Lists_l2 n (ref13_Lists_l1 n r1 m) r1 (out.length : Int) (pre.length : Int) n true 0 = _ from hin]
      simp only [Bool.true_and, List.map_cons, firsts, ← ho, ref13_Lists_j3]
      by_cases hmem : x.List_ ∈ out
      · simp only [hmem, not_true_eq_false, decide_false, Bool.false_eq_true, if_false, if_true, ref13_Lists_j2]
        rw [w64_id (by omega) (by omega)]
        have h := ih (pre ++ [x]) m out (by simp [he]) (by omega) (fun y => by
          rw [ho, List.map_append, List.mem_append, List.map_cons, List.map_nil, List.mem_singleton]
          constructor
          · exact .inl
          · rintro (h | rfl)
            · exact h
            · exact (ho _).1 hmem) (by simp; omega)
        rw [hc] at h
        exact h
      · simp only [hmem, not_false_eq_true, decide_true, if_true, if_false, ref13_Lists_j2]
        rw [w64_id (x := (pre.length : Int) + 1) (by omega) (by omega), w64_id (by omega) (by omega)]
        have h := ih (pre ++ [x]) m (out ++ [x.List_]) (by simp [he]) (by omega) (fun y => by
          rw [List.map_append, List.mem_append, List.mem_append, List.map_cons, List.map_nil, ho]) (by simp; omega)
        rw [hc, show (((out ++ [x.List_]).length : Nat) : Int) = (out.length : Int) + 1 by simp] at h
        exact h
  exact key r1.1 [] n [] rfl (by omega) (by simp) (by simp)
/-- The one list of all, or the error. -/
def oneR (L : List (List Int)) : List Int × Int := if 1 < (firsts [] L).length then ([], 2) else ((firsts [] L).headD [], 0)
theorem oneR_perm {L K : List (List Int)} (h : L.Perm K) : oneR L = oneR K := by
  have hp := firsts_perm h
  have hl := hp.length_eq
  unfold oneR
  rw [hl]
  by_cases h1 : 1 < (firsts [] K).length
  · rw [if_pos h1, if_pos h1]
  · rw [if_neg h1, if_neg h1]
    generalize firsts [] L = a at hp hl
    generalize firsts [] K = b at hp hl h1
    match b, hp, h1 with
    | [], hp, _ => rw [hp.eq_nil]
    | [y], hp, _ => rw [List.perm_singleton.1 hp]
    | _ :: _ :: _, _, h1 => simp at h1
theorem one_all (a : List Int) : ∀ l : List (List Int), oneR (a :: l) = if l.all (fun x => decide (x = a)) = true then (a, 0) else ([], 2) := by
  intro l
  unfold oneR
  have e : firsts [] (a :: l) = firsts [a] l := by simp [firsts]
  rw [e]
  by_cases h : l.all (fun x => decide (x = a)) = true
  · have : firsts [a] l = [a] := by
      clear e
      induction l with
      | nil => rfl
      | cons x l ih =>
        simp only [List.all_cons, Bool.and_eq_true, decide_eq_true_eq] at h
        rw [firsts, if_pos (by rw [h.1]; simp)]
        exact ih (by simpa using h.2)
    rw [if_pos h, this]
    rfl
  · rw [if_neg h]
    have : ∃ x, x ∈ l ∧ x ≠ a := by
      simp only [List.all_eq_true, decide_eq_true_eq] at h
      exact Classical.byContradiction fun hc => h fun x hx => Classical.byContradiction fun hne => hc ⟨x, hx, hne⟩
    obtain ⟨x, hx, hne⟩ := this
    have m1 : a ∈ firsts [a] l := (firsts_mem l [a] a).2 (.inl (by simp))
    have m2 : x ∈ firsts [a] l := (firsts_mem l [a] x).2 (.inr hx)
    rw [if_pos ?_]
    generalize firsts [a] l = f at m1 m2
    match f with
    | [] => simp at m1
    | [y] =>
      rw [List.mem_singleton] at m1 m2
      exact absurd (m2.trans m1.symm) hne
    | _ :: _ :: _ => simp
def readR (p : Pulse) : List Int × Int := if (openR p).2 ≠ 0 then ([], (openR p).2) else oneR ((openR p).1.map (·.list))
theorem firsts_ne {L : List (List Int)} (h : L ≠ []) : firsts [] L ≠ [] := by
  cases L with
  | nil => exact absurd rfl h
  | cons a l =>
    have : a ∈ firsts [] (a :: l) := (firsts_mem _ _ a).2 (.inr (by simp))
    intro e
    rw [e] at this
    simp at this
theorem one_eq {n : Nat} (L : List Reading_) (hne : L ≠ []) (hl : ∀ x, x ∈ L → x.list.length < 1000) (hs : L.length < 1000000) (hn : L.length < n) (hn' : 1000 ≤ n) : pulses_one n L = some (oneR (L.map (·.list))) := by
  unfold pulses_one oneR
  rw [lists_eq L hl hs hn hn']
  simp only [Option.bind_some]
  by_cases h1 : 1 < (firsts [] (L.map (·.list))).length
  · rw [if_pos (by simp; omega), if_pos h1]
  · rw [if_neg (by simp; omega), if_neg h1]
    have := firsts_ne (L := L.map (·.list)) (by simpa using hne)
    generalize firsts [] (L.map (·.list)) = f at this
    cases f with
    | nil => exact absurd rfl this
    | cons a l => rfl
theorem Read_eq {n : Nat} (p : Pulse) (hs : p.Times.length ≤ 40) (hf : valid p = true → p.Times.length ≤ 14) (hn : 15000 ≤ n) : pulses_Read n p = some (readR p) := by
  obtain ⟨s'', h⟩ := open_any (n := n) p (by omega) (by omega)
  have hl := openR_len hf
  unfold pulses_Read readR
  rw [h]
  simp only [Option.bind_some]
  by_cases h0 : (openR p).2 = 0
  · rw [if_neg (by simp [h0]), if_neg (by simp [h0]), one_eq _ (open_none h0) (openR_list hs) (by omega) (by omega) (by omega)]
    rfl
  · rw [if_pos (by simp [h0]), if_pos h0]
theorem rRead_eq {n : Nat} (p : Pulse) (hs : p.Times.length ≤ 40) (hf : valid p = true → p.Times.length ≤ 14) (hn : 15000 ≤ n) : ref13_Read n p = some (readR p) := by
  unfold ref13_Read
  rw [known_any p hs hf hn]
  simp only [Option.bind_some]
  have hl := openR_len hf
  have hlen : (knownR p).1.length ≤ 13500 := by
    have := (both_perm p).length_eq
    simp at this
    omega
  have hll := knownR_list hs
  have hne : (knownR p).2 = 0 → (knownR p).1 ≠ [] := fun e h => by
    have := (both_perm p).length_eq
    rw [h] at this
    rw [both_err] at e
    exact open_none e (List.eq_nil_of_length_eq_zero (by simpa using this.symm))
  unfold readR
  rw [← both_err, ← oneR_perm (both_perm p)]
  generalize knownR p = r1 at hlen hll hne ⊢
  by_cases h0 : r1.2 = 0
  · rw [if_neg (by simp [h0]), if_neg (by simp [h0])]
    obtain ⟨L, e⟩ := r1
    have hne := hne h0
    simp only at hne hlen hll h0 ⊢
    cases L with
    | nil => exact absurd rfl hne
    | cons a L =>
      rw [List.map_cons, one_all]
      have key : ∀ (l pre : List Reading) (m : Nat), a :: L = pre ++ l → l.length < m →
          ref13_Read_l1 n (a :: L, e) m (pre.length : Int) = some (if (l.map (·.List_)).all (fun x => decide (x = a.List_)) = true then (a.List_, 0) else ([], 2)) := by
        intro l
        induction l with
        | nil =>
          intro pre m he hm
          obtain ⟨m, rfl⟩ : ∃ k, m = k + 1 := ⟨m - 1, by omega⟩
          simp only [ref13_Read_l1, ref13_Read_l1_b, ref13_Read_j1]
          rw [if_neg (by simp [he])]
          simp [idx]
        | cons x l ih =>
          intro pre m he hm
          simp at hm
          have hl' : (a :: L).length = pre.length + (l.length + 1) := by rw [he]; simp
          obtain ⟨m, rfl⟩ : ∃ k, m = k + 1 := ⟨m - 1, by omega⟩
          have hc : (((pre ++ [x]).length : Nat) : Int) = (pre.length : Int) + 1 := by simp
          have h := ih (pre ++ [x]) m (by simp [he]) (by omega)
          rw [hc] at h
          have hx := hll x (by rw [he]; simp)
          simp only [ref13_Read_l1, ref13_Read_l1_b]
          rw [if_pos (by simp only [decide_eq_true_eq]; omega), show idx (a :: L) (pre.length : Int) = some x by rw [he, idx_mid], show idx (a :: L) 0 = some a from rfl]
          simp only [Option.bind_some]
          rw [SameInts_eq x.List_ a.List_ (by omega) (by omega), w64_id (by omega) (by omega)]
          simp only [Option.bind_some, List.map_cons, List.all_cons]
          by_cases hxa : x.List_ = a.List_
          · simp only [hxa, decide_true, Bool.not_true, Bool.false_eq_true, if_false, Bool.true_and]
            exact h
          · simp [hxa]
      have h := key (a :: L) [] n rfl (by omega)
      rw [show ref13_Read_l1 n (a :: L, e) n 0 = _ from h]
      simp
  · rw [if_pos (by simp [h0]), if_pos h0]
end Go.Law
