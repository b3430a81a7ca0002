/-
  Plain laws about the functions of pulses: open.
  Conditions: none.
-/
import Derived.Test.YtekplngjaddccaaPuJ
set_option linter.all false
namespace Go.Law
open Go Go.AM

theorem pos_lt {p : Pulse} (hl : p.Times.length ≤ 40) {k : Nat} {is : List Nat} (h : is ∈ cmb k (List.range' 0 p.Times.length)) : bits 0 is < 2 ^ 60 :=
  bits_lt is 0 (by omega) fun i hi => by
    have := cmb_mem k _ is h i hi
    simp at this
    omega
theorem readings_eq {S : Type} {n : Nat} (p : Pulse) (hv : valid p = true) (hn : 1100 ≤ n) (aF : Reading_ → S → Option (Bool × S)) (k : Nat) (hk : k ≤ 1000) (s : S) :
    pulses_train_readings_c1 n aF (⟨p⟩ : Train_) (k : Int) s = (yieldAll (fun x s => readF p aF x.toNat s) (masks 0 k 0 p.Times.length) s).bind fun r => some ((), r.2) := by
  obtain ⟨v1, v2, v3, v4, v5, v6, v7, v8, v9⟩ := valid_iff hv
  unfold pulses_train_readings_c1
  have h := sets_eq (fun (x0 : Int) s => pulses_train_readings_c1_c1 n aF x0 (⟨p⟩ : Train_) s) p (by omega) k n 0 0 s (by omega) hk (by decide) (by omega)
  rw [show p.Times.length - 0 = p.Times.length by omega] at h
  rw [show pulses_train_sets n (fun (x0 : Int) s => pulses_train_readings_c1_c1 n aF x0 (⟨p⟩ : Train_) s) (⟨p⟩ : Train_) 0 0 (k : Int) s = _ from h]
  rw [yieldAll_congr (bF := fun x s => readF p aF x.toNat s) _ _ fun x hx s => ?_]
  unfold masks at hx
  obtain ⟨is, his, rfl⟩ := List.mem_map.1 hx
  rw [inner_eq p hv (by omega) aF (bits 0 is) (pos_lt (by omega) his) s]
  simp
end Go.Law
