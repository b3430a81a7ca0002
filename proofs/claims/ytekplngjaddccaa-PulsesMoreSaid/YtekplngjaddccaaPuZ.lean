/-
  Plain laws about the functions of pulses: the law of More.
  Conditions: none.
-/
import Derived.Test.YtekplngjaddccaaPuY
set_option linter.all false
namespace Go.Law
open Go Go.AM

theorem firsts_append {α : Type} [DecidableEq α] : ∀ (l k out : List α), firsts out (l ++ k) = firsts (firsts out l) k
  | [], k, out => rfl
  | x :: l, k, out => by
    simp only [List.cons_append, firsts]
    split <;> exact firsts_append l k _
theorem firsts_grow {α : Type} [DecidableEq α] : ∀ (l out : List α), out.length ≤ (firsts out l).length
  | [], out => Nat.le_refl _
  | x :: l, out => by
    simp only [firsts]
    split
    · exact firsts_grow l out
    · have := firsts_grow l (out ++ [x])
      simp at this; omega
theorem good_more (p : Pulse) (k m : Nat) : ∃ X, goodP p (k + m) = goodP p k ++ X := by
  refine ⟨(((List.range m).map (fun j => k + 1 + j)).flatMap fun j => cmb j (spots p)).filter fun is => (rd p is).isSome, ?_⟩
  unfold goodP cmbs
  rw [show k + m + 1 = (k + 1) + m by omega, List.range_add, List.flatMap_append, List.filter_append]
theorem listOf_like {p q : Pulse} (h : like p q) (ht : p.Times = q.Times) (is : List Nat) : listOf p is = listOf q is := by
  unfold listOf rd
  rw [ht, clean_like h]
theorem goodP_like {p q : Pulse} (h : like p q) (ht : p.Times = q.Times) (k : Nat) : goodP p k = goodP q k := by
  unfold goodP spots rd
  rw [ht]
  congr 1
  funext is
  rw [clean_like h]
theorem foldl_min_le : ∀ (l : List Int) (a : Int), l.foldl min a ≤ a
  | [], a => Int.le_refl a
  | x :: l, a => by
    have := foldl_min_le l (min a x)
    simp only [List.foldl_cons]
    omega
theorem foldl_max_le : ∀ (l : List Int) (a : Int), a ≤ l.foldl max a
  | [], a => Int.le_refl a
  | x :: l, a => by
    have := foldl_max_le l (max a x)
    simp only [List.foldl_cons]
    omega
theorem foldl_min_mem : ∀ (l : List Int) (a x : Int), x ∈ l → l.foldl min a ≤ x
  | [], a, x, h => by simp at h
  | y :: l, a, x, h => by
    simp only [List.foldl_cons]
    rcases List.mem_cons.1 h with rfl | h
    · have := foldl_min_le l (min a x)
      omega
    · exact foldl_min_mem l _ x h
theorem foldl_max_mem : ∀ (l : List Int) (a x : Int), x ∈ l → x ≤ l.foldl max a
  | [], a, x, h => by simp at h
  | y :: l, a, x, h => by
    simp only [List.foldl_cons]
    rcases List.mem_cons.1 h with rfl | h
    · have := foldl_max_le l (max a x)
      omega
    · exact foldl_max_mem l _ x h
theorem isIn_eq {n : Nat} (a b : List Int) (ha : a.length ≤ 40) (hb : b.length ≤ 40) (hn : 1000 ≤ n) : law13_isIn n a b = some (a.all fun x => b.contains x) := by
  unfold law13_isIn
  rw [if_neg (by simp; omega), show decide ((b.length : Int) > 40) = false by simp; omega]
  simp only [law13_isIn_j1, Bool.false_eq_true, if_false]
  have key : ∀ (l pre : List Int) (m : Nat), a = pre ++ l → l.length < m → law13_isIn_l1 n a b m (pre.length : Int) = some (l.all fun x => b.contains x) := by
    intro l
    induction l with
    | nil =>
      intro pre m he hm
      obtain ⟨m, rfl⟩ : ∃ k, m = k + 1 := ⟨m - 1, by omega⟩
      simp [law13_isIn_l1, law13_isIn_l1_b, law13_isIn_j2, he]
    | cons y l ih =>
      intro pre m he hm
      simp at hm
      have hl : a.length = pre.length + (l.length + 1) := by simp [he]
      obtain ⟨m, rfl⟩ : ∃ k, m = k + 1 := ⟨m - 1, by omega⟩
      have hc : (((pre ++ [y]).length : Nat) : Int) = (pre.length : Int) + 1 := by simp
      have h := ih (pre ++ [y]) m (by simp [he]) (by omega)
      rw [hc] at h
      simp only [law13_isIn_l1, law13_isIn_l1_b]
      rw [if_pos (by simp; omega), show idx a (pre.length : Int) = some y by rw [he, idx_mid]]
      simp only [Option.bind_some]
      rw [In_eq y (by omega) (by omega), w64_id (by omega) (by omega), h]
      simp only [Option.bind_some, List.all_cons]
      cases b.contains y <;> simp
  exact key a [] n rfl (by omega)
theorem isSel_eq (p : Pulse) (x : Int) : ref13_IsSelection p x = some (isSel p x) := by
  simp [ref13_IsSelection, rwithin_eq, isSel]
theorem mem_ints (i : Nat) (l : List Nat) : (ints' l).contains (i : Int) = l.contains i := contains_ints l i
theorem all_ints (l k : List Nat) (h : ∀ i, i ∈ l → i ∈ k) : (ints' l).all (fun x => (ints' k).contains x) = true := by
  rw [List.all_eq_true]
  intro x hx
  obtain ⟨i, hi, rfl⟩ := List.mem_map.1 hx
  rw [mem_ints]
  simpa using h i hi
theorem law_PulsesMore (p : Pulse) (more x : Int) : law13_PulsesMore 20000 p more x = some true := by
  unfold law13_PulsesMore
  rw [ready_eq p (by omega)]
  simp only [Option.bind_some]
  have fin : law13_PulsesMore_j1 20000 p more x true = some true := by simp [law13_PulsesMore_j1, works_eq]
  cases hr : readyB p with
  | false => simpa using fin
  | true =>
    obtain ⟨hv, hl⟩ := ready_iff.1 hr
    obtain ⟨v1, v2, v3, v4, v5, v6, v7, v8, v9⟩ := valid_iff hv
    simp only [Bool.not_true, Bool.false_eq_true, if_false]
    by_cases m0 : more < 0
    · rw [if_pos (by simpa using m0)]; exact fin
    rw [if_neg (by simpa using m0)]
    by_cases m3 : more > 3
    · rw [if_pos (by simpa using m3)]; exact fin
    rw [if_neg (by simpa using m3), w64_id (by omega) (by omega)]
    by_cases ms : p.Sparks + more > 3
    · rw [if_pos (by simpa using ms)]; exact fin
    rw [if_neg (by simpa using ms), isSel_eq]
    simp only [Option.bind_some]
    cases hx : isSel p x with
    | false => simpa using fin
    | true =>
      obtain ⟨m, rfl⟩ : ∃ m : Nat, more = m := ⟨more.toNat, by omega⟩
      simp only [Bool.not_true, law13_PulsesMore_j1, Bool.false_eq_true, if_false]
      rw [Copy_eq p (by omega)]
      simp only [Option.bind_some]
      rw [w64_id (x := p.Sparks + m) (by omega) (by omega)]
      obtain ⟨k, hk⟩ : ∃ k : Nat, p.Sparks = k := ⟨p.Sparks.toNat, by omega⟩
      have hk' : p.Sparks.toNat = k := by omega
      have oval := valid_sparks hv (k := p.Sparks + m) (by omega) (by omega)
      generalize ho : (⟨p.Letters, p.Numbers, p.Pitch, p.Slack, p.Gap, p.Pause, p.Sparks + m, p.Times⟩ : Pulse) = o at oval
      have hlike : like o p := by subst ho; exact ⟨rfl, rfl, rfl, rfl, rfl, rfl⟩
      have hot : o.Times = p.Times := by subst ho; rfl
      have hos : o.Sparks.toNat = k + m := by subst ho; simp only; omega
      have hox : isSel o x = true := by subst ho; exact hx
      have hol : o.Times.length ≤ 14 := by rw [hot]; exact hl
      obtain ⟨X, hX⟩ := good_more p k m
      have hgo : goodP o o.Sparks.toNat = goodP p p.Sparks.toNat ++ X := by rw [hos, hk', goodP_like hlike hot, hX]
      have hlist : ∀ is, listOf o is = listOf p is := listOf_like hlike hot
      obtain ⟨p1, p2⟩ := openR_val hv
      obtain ⟨o1, o2⟩ := openR_val oval
      rw [Many_eq p (by omega) (by omega), Many_eq o (by omega) (by omega), Lists_eq p (by omega) (fun _ => hl) (by omega), Lists_eq o (by omega) (fun _ => hol) (by omega)]
      simp only [Option.bind_some, isKnown_eq, bne_self_eq_false]
      have kp : ((openR p).2 == 0 || (openR p).2 == 3) = true := by rw [p1]; split <;> rfl
      have ko : ((openR o).2 == 0 || (openR o).2 == 3) = true := by rw [o1]; split <;> rfl
      rw [kp, ko]
      simp only [Bool.not_true, Bool.false_eq_true, if_false, law13_PulsesMore_j2]
      by_cases h0 : goodP p p.Sparks.toNat = []
      · rw [p1, if_pos h0]
        simp [works_eq]
      · have h0' : goodP o o.Sparks.toNat ≠ [] := by rw [hgo]; simp [h0]
        rw [if_neg h0] at p1
        rw [if_neg h0'] at o1
        have ep : (openR p).1.map (·.list) = (goodP p p.Sparks.toNat).map (listOf p) := by
          unfold openR
          rw [if_pos hv, if_neg h0]
          simp
        have eo : (openR o).1.map (·.list) = (goodP p p.Sparks.toNat).map (listOf p) ++ X.map (listOf p) := by
          unfold openR
          rw [if_pos oval, if_neg h0', hgo]
          simp [hlist]
          rfl
        rw [p1, o1]
        simp only [bne_self_eq_false, Bool.false_eq_true, if_false]
        rw [w64_id (x := p.Sparks + m) (by omega) (by omega), ho]
        rw [Asked_eq p x (by omega) (fun _ => hl) (by omega), Asked_eq o x (by omega) (fun _ => hol) (by omega), p2, o2, ep, eo, hgo]
        simp only [Option.bind_some]
        have a1 : askR p x = (⟨lo (cnts p x), hi (cnts p x)⟩, 0) := by unfold askR; rw [if_pos hv, if_pos hx, if_neg h0]
        have a2 : askR o x = (⟨lo (cnts o x), hi (cnts o x)⟩, 0) := by unfold askR; rw [if_pos oval, if_pos hox, if_neg h0']
        have ec : cnts o x = cnts p x ++ X.map (fun is => (((listOf p is).count x : Nat) : Int)) := by
          unfold cnts
          rw [hgo]
          simp [hlist]
        rw [a1, a2, ec]
        have hne : (goodP p p.Sparks.toNat).map (listOf p) ≠ [] := by simpa using h0
        have f1 := firsts_ne hne
        have f2 := List.length_pos_iff.2 f1
        have f3 := firsts_len ((goodP p p.Sparks.toNat).map (listOf p)) []
        have f4 := firsts_grow (X.map (listOf p)) (firsts [] ((goodP p p.Sparks.toNat).map (listOf p)))
        rw [← firsts_append] at f4
        simp only [List.length_nil, List.length_map, Nat.zero_add] at f3
        rw [List.length_append]
        rw [if_neg (by simp <;> omega), if_neg (by simp <;> omega), if_neg (by simp <;> omega), if_neg (by simp <;> omega)]
        have g1 : lo (cnts p x ++ X.map (fun is => (((listOf p is).count x : Nat) : Int))) ≤ lo (cnts p x) := by
          unfold lo
          rw [List.foldl_append]
          exact foldl_min_le _ _
        have g2 : hi (cnts p x) ≤ hi (cnts p x ++ X.map (fun is => (((listOf p is).count x : Nat) : Int))) := by
          unfold hi
          rw [List.foldl_append]
          exact foldl_max_le _ _
        have g3 : lo (cnts p x) ≤ hi (cnts p x) := by
          have : cnts p x ≠ [] := by unfold cnts; simpa using h0
          cases hc : cnts p x with
          | nil => exact absurd hc this
          | cons c l =>
            have t1 := foldl_min_mem (c :: l) 24 c (by simp)
            have t2 := foldl_max_mem (c :: l) 0 c (by simp)
            unfold lo hi
            omega
        simp only
        rw [if_neg (by simp), if_neg (by simp), if_neg (by simpa using g1), if_neg (by simpa using g3), show decide (hi (cnts p x) > hi (cnts p x ++ X.map (fun is => (((listOf p is).count x : Nat) : Int)))) = false by simpa using g2]
        simp only [law13_PulsesMore_j3, Bool.false_eq_true, if_false]
        rw [w64_id (x := p.Sparks + m) (by omega) (by omega), ho]
        rw [Real_eq p (by omega) (fun _ => hl) (by omega), Real_eq o (by omega) (fun _ => hol) (by omega), Sparks_eq p (by omega) (fun _ => hl) (by omega), Sparks_eq o (by omega) (fun _ => hol) (by omega)]
        simp only [Option.bind_some]
        have rl := real_len p
        have rol := real_len o
        have sl := sparks_len p
        have sol := sparks_len o
        have r1 : realR p = (ints' ((spots p).filter fun i => oft p i == 0), 0) := by unfold realR; rw [if_neg (by simp [p1])]
        have r2 : realR o = (ints' ((spots o).filter fun i => oft o i == 0), 0) := by unfold realR; rw [if_neg (by simp [o1])]
        have r3 : sparksR p = (ints' ((spots p).filter fun i => oft p i == (goodP p p.Sparks.toNat).length), 0) := by unfold sparksR; rw [if_neg (by simp [p1])]
        have r4 : sparksR o = (ints' ((spots o).filter fun i => oft o i == (goodP o o.Sparks.toNat).length), 0) := by unfold sparksR; rw [if_neg (by simp [o1])]
        rw [isIn_eq (realR o).1 (realR p).1 (by omega) (by omega) (by omega), isIn_eq (sparksR o).1 (sparksR p).1 (by omega) (by omega) (by omega)]
        rw [r1, r2, r3, r4]
        have hsp : spots o = spots p := by unfold spots; rw [hot]
        have hof : ∀ i, oft o i = oft p i + X.countP (fun is => is.contains i) := by
          intro i
          unfold oft
          rw [hgo, List.countP_append]
        simp only
        rw [all_ints _ _ (fun i hi => by
          rw [List.mem_filter] at hi ⊢
          rw [hsp, hof] at hi
          simp only [beq_iff_eq] at hi ⊢
          exact ⟨hi.1, by omega⟩), all_ints _ _ (fun i hi => by
          rw [List.mem_filter] at hi ⊢
          rw [hsp, hof, hgo, List.length_append] at hi
          simp only [beq_iff_eq] at hi ⊢
          have t1 := oft_le p i
          have t2 : X.countP (fun is => is.contains i) ≤ X.length := List.countP_le_length
          exact ⟨hi.1, by omega⟩)]
        simp [works_eq, law13_PulsesMore_j4]
end Go.Law
