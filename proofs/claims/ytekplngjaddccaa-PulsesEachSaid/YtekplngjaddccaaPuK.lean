/-
  Plain laws about the functions of pulses: open.
  Conditions: none.
-/
import Derived.Test.YtekplngjaddccaaPuJ
set_option linter.all false
namespace Go.Law
open Go Go.AM

theorem cmb_len : ∀ (k : Nat) (ps : List Nat), (cmb k ps).length ≤ (ps.length + 1) ^ k
  | 0, ps => by simp [cmb]
  | k + 1, [] => by simp [cmb]
  | k + 1, i :: ps => by
    have h1 := cmb_len k ps
    have h2 := cmb_len (k + 1) ps
    simp only [cmb, List.length_append, List.length_map, List.length_cons]
    have h3 : (ps.length + 1) ^ k ≤ (ps.length + 1 + 1) ^ k := Nat.pow_le_pow_left (by omega) k
    calc (cmb k ps).length + (cmb (k + 1) ps).length ≤ (ps.length + 1) ^ k + (ps.length + 1) ^ (k + 1) := by omega
      _ = (ps.length + 1) ^ k * (ps.length + 1 + 1) := by rw [Nat.pow_succ, Nat.mul_add (_ ^ k) (ps.length + 1) 1]; omega
      _ ≤ (ps.length + 1 + 1) ^ k * (ps.length + 1 + 1) := Nat.mul_le_mul_right _ h3
      _ = (ps.length + 1 + 1) ^ (k + 1) := (Nat.pow_succ ..).symm
theorem pos_lt {p : Pulse} (hl : p.Times.length ≤ 40) {k : Nat} {is : List Nat} (h : is ∈ cmb k (List.range' 0 p.Times.length)) : bits 0 is < 2 ^ 60 :=
  bits_lt is 0 (by omega) fun i hi => by
    have := cmb_mem k _ is h i hi
    simp at this
    omega
theorem readings_eq {S : Type} {n : Nat} (p : Pulse) (hv : valid p = true) (hn : 1100 ≤ n) (aF : Reading_ → S → Option (Bool × S)) (k : Nat) (hk : k ≤ 1000) (s : S) :
    pulses_train_readings_c1 n aF (⟨p⟩ : Train_) (k : Int) s = (yieldAll (fun x s => readF p aF x.toNat s) (masks 0 k 0 p.Times.length) s).bind fun r => some ((), r.2) := by
  obtain ⟨v1, v2, v3, v4, v5, v6, v7, v8, v9⟩ := valid_iff hv
  unfold pulses_train_readings_c1
  have h := sets_eq (fun (x0 : Int) s => pulses_train_readings_c1_c1 n aF x0 (⟨p⟩ : Train_) s) p (by omega) k n 0 0 s (by omega) hk (by decide) (by omega)
  rw [show p.Times.length - 0 = p.Times.length by omega] at h
  rw [show pulses_train_sets n (fun (x0 : Int) s => pulses_train_readings_c1_c1 n aF x0 (⟨p⟩ : Train_) s) (⟨p⟩ : Train_) 0 0 (k : Int) s = _ from h]
  rw [yieldAll_congr (bF := fun x s => readF p aF x.toNat s) _ _ fun x hx s => ?_]
  unfold masks at hx
  obtain ⟨is, his, rfl⟩ := List.mem_map.1 hx
  rw [inner_eq p hv (by omega) aF (bits 0 is) (pos_lt (by omega) his) s]
  simp
theorem append_all (p : Pulse) : ∀ (L : List (List Nat)) (out : List Reading_), out.length + L.length ≤ 1048576 →
    yieldAll (fun x s => readF p slices_AppendSeq_pulsesreading_r1 x.toNat s) (L.map fun is => ((bits 0 is : Nat) : Int)) out =
      some (true, out ++ L.filterMap fun is => (clean p (less (bits 0 is).testBit 0 p.Times)).map fun l => (⟨((bits 0 is : Nat) : Int), l⟩ : Reading_))
  | [], out, _ => by simp [yieldAll]
  | is :: L, out, h => by
    simp at h
    simp only [List.map_cons, yieldAll, readF, Int.toNat_natCast, List.filterMap_cons]
    cases clean p (less (bits 0 is).testBit 0 p.Times) with
    | none =>
      simp only [Option.bind_some, if_true, Option.map_none]
      exact append_all p L out (by omega)
    | some l =>
      simp only [slices_AppendSeq_pulsesreading_r1]
      rw [app_ok (by simp; omega)]
      simp only [Option.bind_some, if_true, Option.map_some]
      refine Eq.trans (append_all p L (out ++ [(⟨((bits 0 is : Nat) : Int), l⟩ : Reading_)]) (by simp; omega)) ?_
      simp
theorem AppendSeq_eq {n : Nat} (p : Pulse) (hv : valid p = true) (hn : 1100 ≤ n) (k : Nat) (hk : k ≤ 3) (out : List Reading_) (ho : out.length ≤ 500000) :
    slices_AppendSeq_pulsesreading n out (⟨p⟩ : Train_) (k : Int) = some (out ++ readsK p k) := by
  obtain ⟨v1, v2, v3, v4, v5, v6, v7, v8, v9⟩ := valid_iff hv
  unfold slices_AppendSeq_pulsesreading
  rw [readings_eq p hv hn _ k (by omega) out]
  have hlen := cmb_len k (List.range' 0 p.Times.length)
  have hb : ((List.range' 0 p.Times.length).length + 1) ^ k ≤ 25 ^ 3 := Nat.le_trans (Nat.pow_le_pow_left (by simp; omega) k) (Nat.pow_le_pow_right (by omega) hk)
  have h25 : 25 ^ 3 = 15625 := by decide
  unfold masks
  rw [append_all p _ out (by omega)]
  rfl
theorem readsK_len (p : Pulse) (hl : p.Times.length ≤ 24) (k : Nat) (hk : k ≤ 3) : (readsK p k).length ≤ 15625 := by
  unfold readsK
  have h1 := List.length_filterMap_le (fun is => (clean p (less (bits 0 is).testBit 0 p.Times)).map fun l => (⟨((bits 0 is : Nat) : Int), l⟩ : Reading_)) (cmb k (List.range' 0 p.Times.length))
  have hlen := cmb_len k (List.range' 0 p.Times.length)
  have hb : ((List.range' 0 p.Times.length).length + 1) ^ k ≤ 25 ^ 3 := Nat.le_trans (Nat.pow_le_pow_left (by simp; omega) k) (Nat.pow_le_pow_right (by omega) hk)
  have h25 : 25 ^ 3 = 15625 := by decide
  omega
/-- All readings, as the code lists them. -/
def readsTo (p : Pulse) (a : Nat) : Nat → List Reading_
  | 0 => []
  | d + 1 => readsK p a ++ readsTo p (a + 1) d
theorem open_l {S : Type} {n : Nat} (p : Pulse) (hv : valid p = true) (hn : 1100 ≤ n) (r3 : Bool × S) : ∀ (d k m : Nat) (out : List Reading_), (d : Int) + k = p.Sparks + 1 → d < m → out.length ≤ 20000 * k →
    pulses_open_l1 n p r3 m out (k : Int) = pulses_open_j1 r3 (out ++ readsTo p k d) := by
  obtain ⟨v1, v2, v3, v4, v5, v6, v7, v8, v9⟩ := valid_iff hv
  intro d
  induction d with
  | zero =>
    intro k m out hd hm ho
    obtain ⟨m, rfl⟩ : ∃ j, m = j + 1 := ⟨m - 1, by omega⟩
    simp only [pulses_open_l1, pulses_open_l1_b]
    rw [w64_id (x := p.Sparks + 1) (by omega) (by omega), if_neg (by simp; omega)]
    simp [readsTo]
  | succ d ih =>
    intro k m out hd hm ho
    obtain ⟨m, rfl⟩ : ∃ j, m = j + 1 := ⟨m - 1, by omega⟩
    simp only [pulses_open_l1, pulses_open_l1_b]
    rw [w64_id (x := p.Sparks + 1) (by omega) (by omega), if_pos (by simp; omega), AppendSeq_eq p hv hn k (by omega) out (by omega)]
    simp only [Option.bind_some]
    rw [w64_id (by omega) (by omega)]
    have hl := readsK_len p v8 k (by omega)
    have h := ih (k + 1) m (out ++ readsK p k) (by push_cast at hd ⊢; omega) (by omega) (by simp; omega)
    push_cast at h
    rw [h, readsTo, List.append_assoc]
/-- What open answers to those who ask for something. -/
theorem open_eq {S : Type} {n : Nat} (p : Pulse) (hs : p.Times.length ≤ 1000) (hn : 1100 ≤ n) (aF : Train_ → S → Option (Bool × S)) (st : S) (b : Bool) (st' : S) (hF : valid p = true → aF (⟨p⟩ : Train_) st = some (b, st')) :
    ∃ s'', pulses_open n aF p st = some ((if valid p = true then (if b = true then (if readsTo p 0 (p.Sparks + 1).toNat = [] then ([], 3) else (readsTo p 0 (p.Sparks + 1).toNat, 0)) else ([], 1)) else ([], 130)), s'') := by
  unfold pulses_open
  rw [Check_eq p (by omega) (by omega) (by omega)]
  simp only [Option.bind_some]
  cases hv : valid p with
  | false => exact ⟨st, by simp⟩
  | true =>
    obtain ⟨v1, v2, v3, v4, v5, v6, v7, v8, v9⟩ := valid_iff hv
    simp only [cond_true, bne_self_eq_false, Bool.false_eq_true, if_false, hF hv, Option.bind_some, if_true]
    cases b with
    | false => exact ⟨st', by simp⟩
    | true =>
      have h := open_l (n := n) p hv hn (true, st') (p.Sparks + 1).toNat 0 n [] (by simp; omega) (by omega) (by simp)
      simp only [Bool.not_true, Bool.false_eq_true, if_false, if_true]
      rw [show pulses_open_l1 n p (true, st') n [] 0 = _ from h]
      simp only [List.nil_append, pulses_open_j1]
      by_cases hr : readsTo p 0 (p.Sparks + 1).toNat = []
      · exact ⟨st', by simp [hr]⟩
      · refine ⟨st', ?_⟩
        rw [if_neg (by have := List.length_pos_iff.2 hr; simp; omega), if_neg hr]
end Go.Law
