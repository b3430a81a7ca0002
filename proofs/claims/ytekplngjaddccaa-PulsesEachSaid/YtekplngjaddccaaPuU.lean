/-
  Plain laws about the functions of pulses: Fewest, and the law of Many.
  Conditions: none.
-/
import Derived.Test.YtekplngjaddccaaPuT
set_option linter.all false
namespace Go.Law
open Go Go.AM

/-- Is there a reading with so many sparks. -/
def hasK (p : Pulse) (k : Nat) : Bool := (cmb k (spots p)).any fun is => (rd p is).isSome
def fewR (p : Pulse) : Int × Int :=
  if valid p = true then (if hasK p 0 = true then (0, 0) else if hasK p 1 = true then (1, 0) else if hasK p 2 = true then (2, 0) else if hasK p 3 = true then (3, 0) else (0, 3)) else (0, 130)
theorem few_all (p : Pulse) (v5 : Int) : ∀ (L : List (List Nat)) (s : Int), yieldAll (fun x s => readF p (pulses_Fewest_r2 v5) x.toNat s) (L.map fun is => ((bits 0 is : Nat) : Int)) (s, false) =
    some (if (L.any fun is => (rd p is).isSome) = true then (false, (v5, true)) else (true, (s, false)))
  | [], s => rfl
  | is :: L, s => by
    have e : readF p (pulses_Fewest_r2 v5) (bits 0 is) (s, false) = some (if (rd p is).isSome = true then (false, (v5, true)) else (true, (s, false))) := by
      unfold readF
      rw [rd_bits]
      cases rd p is with
      | none => rfl
      | some l => rfl
    have ih := few_all p v5 L s
    simp only [List.map_cons, yieldAll, Int.toNat_natCast, List.any_cons]
    rw [e]
    by_cases h : (rd p is).isSome = true
    · simp [h]
    · have h' : (rd p is).isSome = false := by simpa using h
      simp only [h', Bool.false_eq_true, if_false, Option.bind_some, if_true, Bool.false_or]
      exact ih
theorem Fewest_eq {n : Nat} (p : Pulse) (hs : p.Times.length ≤ 40) (hn : 1200 ≤ n) : pulses_Fewest n p = some (fewR p) := by
  unfold pulses_Fewest fewR
  rw [Check_eq p (by omega) (by omega) (by omega)]
  simp only [Option.bind_some]
  cases hv : valid p with
  | false => simp
  | true =>
    simp only [cond_true, bne_self_eq_false, Bool.false_eq_true, if_false, if_true]
    have step : ∀ (k : Nat) (s : Int), k ≤ 3 → pulses_train_readings_c1 n (pulses_Fewest_r2 (k : Int)) (⟨p⟩ : Train_) (k : Int) (s, false) = some ((), if hasK p k = true then ((k : Int), true) else (s, false)) := by
      intro k s hk
      rw [readings_eq p hv (by omega) _ k (by omega) (s, false)]
      unfold masks
      rw [few_all p (k : Int) _ s]
      unfold hasK spots
      simp only [Option.bind_some]
      split <;> rfl
    obtain ⟨m, hm⟩ : ∃ m, n = m + 5 := ⟨n - 5, by omega⟩
    have s0 : pulses_train_readings_c1 n (pulses_Fewest_r2 0) (⟨p⟩ : Train_) 0 ((0 : Int), false) = some ((), if hasK p 0 = true then ((0 : Int), true) else ((0 : Int), false)) := step 0 0 (by omega)
    have s1 : pulses_train_readings_c1 n (pulses_Fewest_r2 1) (⟨p⟩ : Train_) 1 ((0 : Int), false) = some ((), if hasK p 1 = true then ((1 : Int), true) else ((0 : Int), false)) := step 1 0 (by omega)
    have s2 : pulses_train_readings_c1 n (pulses_Fewest_r2 2) (⟨p⟩ : Train_) 2 ((0 : Int), false) = some ((), if hasK p 2 = true then ((2 : Int), true) else ((0 : Int), false)) := step 2 0 (by omega)
    have s3 : pulses_train_readings_c1 n (pulses_Fewest_r2 3) (⟨p⟩ : Train_) 3 ((0 : Int), false) = some ((), if hasK p 3 = true then ((3 : Int), true) else ((0 : Int), false)) := step 3 0 (by omega)
    have hrun : pulses_Fewest_l1 n p (m + 5) 0 0 = some (if hasK p 0 = true then ((0 : Int), (0 : Int)) else if hasK p 1 = true then (1, 0) else if hasK p 2 = true then (2, 0) else if hasK p 3 = true then (3, 0) else (0, 3)) := by
      simp only [pulses_Fewest_l1, pulses_Fewest_l1_b, pulses_Fewest_j1]
      rw [if_pos (by decide), s0]
      simp only [Option.bind_some]
      cases hasK p 0 with
      | true => simp
      | false =>
        simp only [Bool.false_eq_true, if_false]
        rw [show w64 (0 + 1) = 1 by decide, if_pos (by decide), s1]
        simp only [Option.bind_some]
        cases hasK p 1 with
        | true => simp
        | false =>
          simp only [Bool.false_eq_true, if_false]
          rw [show w64 (1 + 1) = 2 by decide, if_pos (by decide), s2]
          simp only [Option.bind_some]
          cases hasK p 2 with
          | true => simp
          | false =>
            simp only [Bool.false_eq_true, if_false]
            rw [show w64 (2 + 1) = 3 by decide, if_pos (by decide), s3]
            simp only [Option.bind_some]
            cases hasK p 3 with
            | true => simp
            | false =>
              simp only [Bool.false_eq_true, if_false]
              rw [show w64 (3 + 1) = 4 by decide, if_neg (by decide)]
    rw [show pulses_Fewest_l1 n p n 0 0 = pulses_Fewest_l1 n p (m + 5) 0 0 from congrArg (fun k => pulses_Fewest_l1 n p k 0 0) hm, hrun]
theorem cmb_size : ∀ (k : Nat) (ps is : List Nat), is ∈ cmb k ps → is.length = k
  | 0, ps, is, h => by simp [cmb] at h; simp [h]
  | k + 1, [], is, h => by simp [cmb] at h
  | k + 1, i :: ps, is, h => by
    simp only [cmb, List.mem_append, List.mem_map] at h
    rcases h with ⟨is', h1, rfl⟩ | h
    · simp [cmb_size k ps is' h1]
    · exact cmb_size (k + 1) ps is h
theorem mem_goodP {p : Pulse} {k : Nat} {is : List Nat} : is ∈ goodP p k ↔ is.length ≤ k ∧ is ∈ cmb is.length (spots p) ∧ (rd p is).isSome = true := by
  unfold goodP cmbs
  rw [List.mem_filter, List.mem_flatMap]
  constructor
  · rintro ⟨⟨j, hj, hm⟩, h⟩
    have := cmb_size j _ is hm
    subst this
    rw [List.mem_range] at hj
    exact ⟨by omega, hm, h⟩
  · rintro ⟨h1, h2, h3⟩
    exact ⟨⟨is.length, List.mem_range.2 (by omega), h2⟩, h3⟩
theorem hasK_iff {p : Pulse} {k : Nat} : hasK p k = true ↔ ∃ is, is.length = k ∧ is ∈ cmb is.length (spots p) ∧ (rd p is).isSome = true := by
  unfold hasK
  rw [List.any_eq_true]
  constructor
  · rintro ⟨is, h1, h2⟩
    have := cmb_size k _ is h1
    exact ⟨is, this, by rw [this]; exact h1, h2⟩
  · rintro ⟨is, h1, h2, h3⟩
    exact ⟨is, by rw [← h1]; exact h2, h3⟩
theorem Far_eq {n : Nat} (p : Pulse) (hn : 1000 ≤ n) : law13_Far n p = some (decide (p.Times.length > 40) || (valid p && decide (p.Times.length > 14))) := by
  unfold law13_Far law13_Far_j1
  by_cases h : p.Times.length > 40
  · rw [if_pos (by simp; omega)]
    simp [h]
  · rw [if_neg (by simp; omega), rCheck_eq p (by omega) (by omega)]
    simp only [Option.bind_some, h, decide_false, Bool.false_or]
    cases valid p with
    | false => simp
    | true => simp <;> omega
end Go.Law
