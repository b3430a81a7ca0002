/-
  Plain laws about the functions of pulses: the readings of the code.
  Conditions: none.
-/
import Derived.Test.YtekplngjaddccaaPuI
set_option linter.all false
namespace Go.Law
open Go Go.AM

/-- The times without the pulses at some places. -/
def less (f : Nat → Bool) : Nat → List Int → List Int
  | _, [] => []
  | i, t :: l => if f i then less f (i + 1) l else t :: less f (i + 1) l
theorem less_mem (f : Nat → Bool) : ∀ (l : List Int) (i : Nat) (x : Int), x ∈ less f i l → x ∈ l
  | [], _, _, h => by simp [less] at h
  | t :: l, i, x, h => by
    simp only [less] at h
    split at h
    · exact List.mem_cons_of_mem _ (less_mem f l (i + 1) x h)
    · rcases List.mem_cons.1 h with rfl | h
      · simp
      · exact List.mem_cons_of_mem _ (less_mem f l (i + 1) x h)
theorem less_len (f : Nat → Bool) : ∀ (l : List Int) (i : Nat), (less f i l).length ≤ l.length
  | [], _ => by simp [less]
  | t :: l, i => by
    have := less_len f l (i + 1)
    simp only [less]
    split <;> simp <;> omega
theorem rise_mem : ∀ (l : List Int) (prev : Option Int), rise prev l = true → ∀ x, x ∈ l → 0 ≤ x ∧ x ≤ 99999
  | [], _, _, x, h => by simp at h
  | t :: l, prev, h, x, hx => by
    simp only [rise, Bool.and_eq_true] at h
    rcases List.mem_cons.1 hx with rfl | hx
    · exact inR_iff.1 h.1.1
    · exact rise_mem l _ h.2 x hx
def readF {S : Type} (p : Pulse) (aF : Reading_ → S → Option (Bool × S)) (b : Nat) (s : S) : Option (Bool × S) :=
  match clean p (less b.testBit 0 p.Times) with
  | none => some (true, s)
  | some l => aF (⟨(b : Int), l⟩ : Reading_) s
theorem inner_eq {S : Type} {n : Nat} (p : Pulse) (hv : valid p = true) (hn : 1010 ≤ n) (aF : Reading_ → S → Option (Bool × S)) (b : Nat) (hb : b < 2 ^ 60) (s : S) :
    pulses_train_readings_c1_c1 n aF (b : Int) (⟨p⟩ : Train_) s = readF p aF b s := by
  obtain ⟨v1, v2, v3, v4, v5, v6, v7, v8, v9⟩ := valid_iff hv
  have htm := rise_mem p.Times none v9
  have key : ∀ (l pre : List Int) (m : Nat) (left : List Int), p.Times = pre ++ l → l.length < m → left.length ≤ pre.length →
      (left ++ less b.testBit pre.length l = less b.testBit 0 p.Times) → pulses_train_readings_c1_c1_l1 n (b : Int) aF s (⟨p⟩ : Train_) m left (pre.length : Int) = readF p aF b s := by
    intro l
    induction l with
    | nil =>
      intro pre m left he hm hlen hle
      obtain ⟨m, rfl⟩ : ∃ k, m = k + 1 := ⟨m - 1, by omega⟩
      simp only [pulses_train_readings_c1_c1_l1, pulses_train_readings_c1_c1_l1_b]
      rw [if_neg (by simp [he])]
      simp only [less, List.append_nil] at hle
      subst hle
      simp only [pulses_train_readings_c1_c1_j1]
      rw [list_eq p hv _ (by have := less_len b.testBit p.Times 0; omega) (fun x hx => htm x (less_mem _ _ _ _ hx)) (by omega)]
      simp only [Option.bind_some, readF]
      cases clean p (less b.testBit 0 p.Times) with
      | none => simp [toPair, pulses_train_readings_c1_c1_j2]
      | some l =>
        simp only [toPair, Bool.not_true, Bool.false_eq_true, if_false]
        cases aF (⟨(b : Int), l⟩ : Reading_) s with
        | none => rfl
        | some r => rfl
    | cons x l ih =>
      intro pre m left he hm hlen hle
      simp at hm
      have hl : p.Times.length = pre.length + (l.length + 1) := by simp [he]
      obtain ⟨m, rfl⟩ : ∃ k, m = k + 1 := ⟨m - 1, by omega⟩
      simp only [pulses_train_readings_c1_c1_l1, pulses_train_readings_c1_c1_l1_b]
      rw [if_pos (by simp; omega), show idx p.Times (pre.length : Int) = some x by rw [he, idx_mid]]
      simp only [Option.bind_some]
      rw [has_nat hb (by omega)]
      simp only [Option.bind_some, pulses_train_readings_c1_c1_j3]
      have hc : (((pre ++ [x]).length : Nat) : Int) = (pre.length : Int) + 1 := by simp
      cases hbit : b.testBit pre.length with
      | true =>
        simp only [Bool.not_true, Bool.false_eq_true, if_false]
        rw [w64_id (by omega) (by omega)]
        have h := ih (pre ++ [x]) m left (by simp [he]) (by omega) (by simp; omega) (by rw [← hle]; simp [less, hbit])
        rw [hc] at h
        exact h
      | false =>
        simp only [Bool.not_false, if_true]
        rw [app_ok (by simp; omega)]
        simp only [Option.bind_some]
        rw [w64_id (by omega) (by omega)]
        have h := ih (pre ++ [x]) m (left ++ [x]) (by simp [he]) (by omega) (by simp; omega) (by rw [← hle]; simp [less, hbit])
        rw [hc] at h
        exact h
  exact key p.Times [] n [] rfl (by omega) (by simp) (by simp)
theorem yieldAll_congr {S : Type} {aF bF : Int → S → Option (Bool × S)} : ∀ (l : List Int) (s : S), (∀ x, x ∈ l → ∀ s, aF x s = bF x s) → yieldAll aF l s = yieldAll bF l s
  | [], _, _ => rfl
  | x :: l, s, h => by
    simp only [yieldAll]
    rw [h x (by simp) s]
    congr 1
    funext r
    rw [yieldAll_congr l r.2 fun y hy => h y (by simp [hy])]
theorem cmb_mem : ∀ (k : Nat) (ps : List Nat) (is : List Nat), is ∈ cmb k ps → ∀ i, i ∈ is → i ∈ ps
  | 0, _, is, h, i, hi => by simp [cmb] at h; subst h; simp at hi
  | k + 1, [], is, h, _, _ => by simp [cmb] at h
  | k + 1, j :: ps, is, h, i, hi => by
    simp only [cmb, List.mem_append, List.mem_map] at h
    rcases h with ⟨is', h1, rfl⟩ | h
    · rcases List.mem_cons.1 hi with rfl | hi
      · simp
      · exact List.mem_cons_of_mem _ (cmb_mem k ps is' h1 i hi)
    · exact List.mem_cons_of_mem _ (cmb_mem (k + 1) ps is h i hi)
theorem bits_lt : ∀ (is : List Nat) (first : Nat), first < 2 ^ 60 → (∀ i, i ∈ is → i < 60) → bits first is < 2 ^ 60
  | [], _, h, _ => h
  | i :: is, first, h, hi => bits_lt is (first ||| 2 ^ i) (Nat.or_lt_two_pow h (Nat.pow_lt_pow_right (by omega) (hi i (by simp)))) fun j hj => hi j (by simp [hj])
/-- All readings with so many sparks, as the code finds them. -/
def readsK (p : Pulse) (k : Nat) : List Reading_ := (cmb k (List.range' 0 p.Times.length)).filterMap fun is => (clean p (less (bits 0 is).testBit 0 p.Times)).map fun l => (⟨((bits 0 is : Nat) : Int), l⟩ : Reading_)
end Go.Law
