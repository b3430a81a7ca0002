/-
  Plain laws about the functions of pulses: Fewest, and the law of Many.
  Conditions: none.
-/
import Derived.Test.YtekplngjaddccaaPuT
set_option linter.all false
namespace Go.Law
open Go Go.AM

/-- Is there a reading with so many sparks. -/
def hasK (p : Pulse) (k : Nat) : Bool := (cmb k (spots p)).any fun is => (rd p is).isSome
def fewR (p : Pulse) : Int × Int :=
  if valid p = true then (if hasK p 0 = true then (0, 0) else if hasK p 1 = true then (1, 0) else if hasK p 2 = true then (2, 0) else if hasK p 3 = true then (3, 0) else (0, 3)) else (0, 130)
theorem few_all (p : Pulse) (v5 : Int) : ∀ (L : List (List Nat)) (s : Int), yieldAll (fun x s => readF p (pulses_Fewest_r2 v5) x.toNat s) (L.map fun is => ((bits 0 is : Nat) : Int)) (s, false) =
    some (if (L.any fun is => (rd p is).isSome) = true then (false, (v5, true)) else (true, (s, false)))
  | [], s => rfl
  | is :: L, s => by
    have e : readF p (pulses_Fewest_r2 v5) (bits 0 is) (s, false) = some (if (rd p is).isSome = true then (false, (v5, true)) else (true, (s, false))) := by
      unfold readF
      rw [rd_bits]
      cases rd p is with
      | none => rfl
      | some l => rfl
    have ih := few_all p v5 L s
    simp only [List.map_cons, yieldAll, Int.toNat_natCast, List.any_cons]
    rw [e]
    by_cases h : (rd p is).isSome = true
    · simp [h]
    · have h' : (rd p is).isSome = false := by simpa using h
      simp only [h', Bool.false_eq_true, if_false, Option.bind_some, if_true, Bool.false_or]
      exact ih
theorem Fewest_eq {n : Nat} (p : Pulse) (hs : p.Times.length ≤ 40) (hn : 1200 ≤ n) : pulses_Fewest n p = some (fewR p) := by
  unfold pulses_Fewest fewR
  rw [Check_eq p (by omega) (by omega) (by omega)]
  simp only [Option.bind_some]
  cases hv : valid p with
  | false => simp
  | true =>
    simp only [cond_true, bne_self_eq_false, Bool.false_eq_true, if_false, if_true]
    have step : ∀ (k : Nat) (s : Int), k ≤ 3 → pulses_train_readings_c1 n (pulses_Fewest_r2 (k : Int)) (⟨p⟩ : Train_) (k : Int) (s, false) = some ((), if hasK p k = true then ((k : Int), true) else (s, false)) := by
      intro k s hk
      rw [readings_eq p hv (by omega) _ k (by omega) (s, false)]
      unfold masks
      rw [few_all p (k : Int) _ s]
      unfold hasK spots
      simp only [Option.bind_some]
      split <;> rfl
    obtain ⟨m, hm⟩ : ∃ m, n = m + 5 := ⟨n - 5, by omega⟩
    have s0 : pulses_train_readings_c1 n (pulses_Fewest_r2 0) (⟨p⟩ : Train_) 0 ((0 : Int), false) = some ((), if hasK p 0 = true then ((0 : Int), true) else ((0 : Int), false)) := step 0 0 (by omega)
    have s1 : pulses_train_readings_c1 n (pulses_Fewest_r2 1) (⟨p⟩ : Train_) 1 ((0 : Int), false) = some ((), if hasK p 1 = true then ((1 : Int), true) else ((0 : Int), false)) := step 1 0 (by omega)
    have s2 : pulses_train_readings_c1 n (pulses_Fewest_r2 2) (⟨p⟩ : Train_) 2 ((0 : Int), false) = some ((), if hasK p 2 = true then ((2 : Int), true) else ((0 : Int), false)) := step 2 0 (by omega)
    have s3 : pulses_train_readings_c1 n (pulses_Fewest_r2 3) (⟨p⟩ : Train_) 3 ((0 : Int), false) = some ((), if hasK p 3 = true then ((3 : Int), true) else ((0 : Int), false)) := step 3 0 (by omega)
    have hrun : pulses_Fewest_l1 n p (m + 5) 0 0 = some (if hasK p 0 = true then ((0 : Int), (0 : Int)) else if hasK p 1 = true then (1, 0) else if hasK p 2 = true then (2, 0) else if hasK p 3 = true then (3, 0) else (0, 3)) := by
      simp only [pulses_Fewest_l1, pulses_Fewest_l1_b, pulses_Fewest_j1]
      rw [if_pos (by decide), s0]
      simp only [Option.bind_some]
      cases hasK p 0 with
      | true => simp
      | false =>
        simp only [Bool.false_eq_true, if_false]
        rw [show w64 (0 + 1) = 1 by decide, if_pos (by decide), s1]
        simp only [Option.bind_some]
        cases hasK p 1 with
        | true => simp
        | false =>
          simp only [Bool.false_eq_true, if_false]
          rw [show w64 (1 + 1) = 2 by decide, if_pos (by decide), s2]
          simp only [Option.bind_some]
          cases hasK p 2 with
          | true => simp
          | false =>
            simp only [Bool.false_eq_true, if_false]
            rw [show w64 (2 + 1) = 3 by decide, if_pos (by decide), s3]
            simp only [Option.bind_some]
            cases hasK p 3 with
            | true => simp
            | false =>
              simp only [Bool.false_eq_true, if_false]
              rw [show w64 (3 + 1) = 4 by decide, if_neg (by decide)]
    rw [show pulses_Fewest_l1 n p n 0 0 = pulses_Fewest_l1 n p (m + 5) 0 0 from congrArg (fun k => pulses_Fewest_l1 n p k 0 0) hm, hrun]
theorem cmb_size : ∀ (k : Nat) (ps is : List Nat), is ∈ cmb k ps → is.length = k
  | 0, ps, is, h => by simp [cmb] at h; simp [h]
  | k + 1, [], is, h => by simp [cmb] at h
  | k + 1, i :: ps, is, h => by
    simp only [cmb, List.mem_append, List.mem_map] at h
    rcases h with ⟨is', h1, rfl⟩ | h
    · simp [cmb_size k ps is' h1]
    · exact cmb_size (k + 1) ps is h
theorem mem_goodP {p : Pulse} {k : Nat} {is : List Nat} : is ∈ goodP p k ↔ is.length ≤ k ∧ is ∈ cmb is.length (spots p) ∧ (rd p is).isSome = true := by
  unfold goodP cmbs
  rw [List.mem_filter, List.mem_flatMap]
  constructor
  · rintro ⟨⟨j, hj, hm⟩, h⟩
    have := cmb_size j _ is hm
    subst this
    rw [List.mem_range] at hj
    exact ⟨by omega, hm, h⟩
  · rintro ⟨h1, h2, h3⟩
    exact ⟨⟨is.length, List.mem_range.2 (by omega), h2⟩, h3⟩
theorem mem_goodR {p : Pulse} {k : Nat} {is : List Nat} : is ∈ goodR p k ↔ is.length ≤ k ∧ is ∈ cmb is.length (spots p) ∧ (rd p is).isSome = true := by
  rw [(good_perm p k).mem_iff, mem_goodP]
theorem hasK_iff {p : Pulse} {k : Nat} : hasK p k = true ↔ ∃ is, is.length = k ∧ is ∈ cmb is.length (spots p) ∧ (rd p is).isSome = true := by
  unfold hasK
  rw [List.any_eq_true]
  constructor
  · rintro ⟨is, h1, h2⟩
    have := cmb_size k _ is h1
    exact ⟨is, this, by rw [this]; exact h1, h2⟩
  · rintro ⟨is, h1, h2, h3⟩
    exact ⟨is, by rw [← h1]; exact h2, h3⟩
theorem foldl_min (L : List Reading) : ∀ (l pre : List Reading) (m : Nat) (v : Int) (k : Int), L = pre ++ l → L.length < 1000000 → l.length < m → (∀ x, x ∈ l → k ≤ (x.Sparks.length : Int)) → k ≤ v → (v = k ∨ ∃ x, x ∈ l ∧ (x.Sparks.length : Int) = k) →
    ref13_Fewest_l1 L m v (pre.length : Int) = some (k, 0) := by
  intro l
  induction l with
  | nil =>
    intro pre m v k he hs hm hle hv hex
    obtain ⟨m, rfl⟩ : ∃ k, m = k + 1 := ⟨m - 1, by omega⟩
    simp only [ref13_Fewest_l1, ref13_Fewest_l1_b, ref13_Fewest_j1]
    rw [if_neg (by simp [he])]
    rcases hex with rfl | ⟨x, hx, _⟩
    · rfl
    · simp at hx
  | cons y l ih =>
    intro pre m v k he hs hm hle hv hex
    simp at hm
    have hl' : L.length = pre.length + (l.length + 1) := by simp [he]
    obtain ⟨m, rfl⟩ : ∃ k, m = k + 1 := ⟨m - 1, by omega⟩
    have hc : (((pre ++ [y]).length : Nat) : Int) = (pre.length : Int) + 1 := by simp
    simp only [ref13_Fewest_l1, ref13_Fewest_l1_b]
    rw [if_pos (by simp; omega), show idx L (pre.length : Int) = some y by rw [he, idx_mid]]
    simp only [Option.bind_some]
    rw [w64_id (by omega) (by omega), ← hc]
    have hy := hle y (by simp)
    refine ih (pre ++ [y]) m _ k (by simp [he]) hs (by omega) (fun x hx => hle x (by simp [hx])) (by omega) ?_
    rcases hex with rfl | ⟨x, hx, hxk⟩
    · exact .inl (by omega)
    · rcases List.mem_cons.1 hx with rfl | hx
      · exact .inl (by omega)
      · exact .inr ⟨x, hx, hxk⟩
theorem rFewest_eq {n : Nat} (p : Pulse) (hs : p.Times.length ≤ 40) (hf : valid p = true → p.Times.length ≤ 14) (hn : 15000 ≤ n) : ref13_Fewest n p = some (fewR p) := by
  unfold ref13_Fewest fewR
  rw [rCheck_eq p (by omega) (by omega)]
  simp only [Option.bind_some]
  cases hv : valid p with
  | false => simp
  | true =>
    simp only [cond_true, bne_self_eq_false, Bool.false_eq_true, if_false, if_true]
    have hl := sub_len14 (k := 3) (ps := List.range' 0 p.Times.length) (by omega) (by simp; exact hf hv)
    have h := rReads_eq (n := n) p hv (by omega) 3 (by omega) (by omega)
    rw [show ref13_readings n p 3 = _ from h, rReads_good]
    have hlen : (goodR p 3).length ≤ 13500 := Nat.le_trans (List.length_filter_le _ _) hl
    simp only [Option.bind_some, List.length_map]
    have gen : ∀ k : Nat, k ≤ 3 → hasK p k = true → (∀ j, j < k → hasK p j = false) →
        (if (((goodR p 3).length : Int) == 0) = true then some ((0 : Int), (3 : Int)) else
          Option.bind (idx ((goodR p 3).map fun is => (⟨ints' is, listOf p is⟩ : Reading)) 0) fun x5 => ref13_Fewest_l1 ((goodR p 3).map fun is => (⟨ints' is, listOf p is⟩ : Reading)) n (x5.Sparks.length : Int) 0) = some ((k : Int), 0) := by
      intro k hk h1 h2
      obtain ⟨is, i1, i2, i3⟩ := hasK_iff.1 h1
      have hm : is ∈ goodR p 3 := mem_goodR.2 ⟨by omega, i2, i3⟩
      have hmin : ∀ x, x ∈ goodR p 3 → (k : Int) ≤ ((ints' x).length : Int) := by
        intro x hx
        obtain ⟨x1, x2, x3⟩ := mem_goodR.1 hx
        simp only [ints', List.length_map]
        by_cases hlt : x.length < k
        · have := h2 _ hlt
          rw [hasK_iff.2 ⟨x, rfl, x2, x3⟩] at this
          cases this
        · omega
      generalize goodR p 3 = G at hlen hm hmin
      cases G with
      | nil => simp at hm
      | cons g G =>
        rw [if_neg (by simp; omega), List.map_cons]
        rw [show ∀ (x : Reading) (l : List Reading), idx (x :: l) 0 = some x from fun _ _ => rfl]
        simp only [Option.bind_some]
        refine foldl_min _ ((g :: G).map fun is => (⟨ints' is, listOf p is⟩ : Reading)) [] n _ (k : Int) rfl (by simp at hlen ⊢; omega) (by simp at hlen ⊢; omega) ?_ (hmin g (by simp)) (.inr ⟨(⟨ints' is, listOf p is⟩ : Reading), List.mem_map.2 ⟨is, hm, rfl⟩, by simp [ints', i1]⟩)
        intro x hx
        obtain ⟨y, hy, rfl⟩ := List.mem_map.1 hx
        exact hmin y hy
    cases h0 : hasK p 0 with
    | true => simpa using gen 0 (by omega) h0 (fun j hj => by omega)
    | false =>
      have l0 : ∀ j, j < 1 → hasK p j = false := fun j hj => by
        rw [show j = 0 by omega]
        exact h0
      cases h1 : hasK p 1 with
      | true => simpa using gen 1 (by omega) h1 l0
      | false =>
        have l1 : ∀ j, j < 2 → hasK p j = false := fun j hj => by
          by_cases e : j = 1
          · subst e; exact h1
          · exact l0 j (by omega)
        cases h2 : hasK p 2 with
        | true => simpa using gen 2 (by omega) h2 l1
        | false =>
          have l2 : ∀ j, j < 3 → hasK p j = false := fun j hj => by
            by_cases e : j = 2
            · subst e; exact h2
            · exact l1 j (by omega)
          cases h3 : hasK p 3 with
          | true => simpa using gen 3 (by omega) h3 l2
          | false =>
            have : goodR p 3 = [] := by
              cases hg : goodR p 3 with
              | nil => rfl
              | cons g G =>
                obtain ⟨x1, x2, x3⟩ := mem_goodR.1 (show g ∈ goodR p 3 by rw [hg]; simp)
                have hh := hasK_iff.2 ⟨g, rfl, x2, x3⟩
                by_cases e : g.length = 3
                · rw [e, h3] at hh; cases hh
                · rw [l2 _ (by omega)] at hh; cases hh
            simp [this]
theorem Far_eq {n : Nat} (p : Pulse) (hn : 1000 ≤ n) : law13_Far n p = some (decide (p.Times.length > 40) || (valid p && decide (p.Times.length > 14))) := by
  unfold law13_Far law13_Far_j1
  by_cases h : p.Times.length > 40
  · rw [if_pos (by simp; omega)]
    simp [h]
  · rw [if_neg (by simp; omega), rCheck_eq p (by omega) (by omega)]
    simp only [Option.bind_some, h, decide_false, Bool.false_or]
    cases valid p with
    | false => simp
    | true => simp <;> omega
theorem law_PulsesMany (p : Pulse) : law13_PulsesMany 20000 p = some true := by
  unfold law13_PulsesMany
  rw [Far_eq p (by omega)]
  simp only [Option.bind_some]
  cases hfar : (decide (p.Times.length > 40) || (valid p && decide (p.Times.length > 14))) with
  | true => simp [works_eq]
  | false =>
    simp only [Bool.or_eq_false_iff, decide_eq_false_iff_not, Bool.and_eq_false_imp] at hfar
    have hs : p.Times.length ≤ 40 := by omega
    have hf : valid p = true → p.Times.length ≤ 14 := fun h => by have := hfar.2 h; omega
    have hl := openR_len hf
    simp only [Bool.false_eq_true, if_false]
    rw [Copy_eq p (by omega)]
    simp only [Option.bind_some]
    rw [Fewest_eq p hs (by omega), rFewest_eq p hs hf (by omega), Many_eq p (by omega) (by omega), rMany_eq p hs hf (by omega)]
    simp only [Option.bind_some, bne_self_eq_false, Bool.false_eq_true, if_false, law13_PulsesMany_j1]
    rw [Lists_eq p hs hf (by omega), rLists_eq p hs hf (by omega), Read_eq p hs hf (by omega), rRead_eq p hs hf (by omega)]
    simp only [Option.bind_some, beq_self_eq_true, if_true]
    have hr : (readR p).1.length < 1000 := by
      unfold readR oneR
      split
      · simp
      · split
        · simp
        · simp only
          have := openR_list hs
          cases hq : firsts [] ((openR p).1.map (·.list)) with
          | nil => simp
          | cons a l =>
            have : a ∈ (openR p).1.map (·.list) := by
              have h1 : a ∈ firsts [] ((openR p).1.map (·.list)) := by rw [hq]; simp
              simpa using (firsts_mem _ _ a).1 h1
            obtain ⟨x, hx, rfl⟩ := List.mem_map.1 this
            exact openR_list hs x hx
    rw [SameInts_self _ (by omega) (by omega)]
    simp only [Option.bind_some, if_true]
    rw [same_self p (by omega) (by omega)]
    simp [works_eq, law13_PulsesMany_j2]
end Go.Law
