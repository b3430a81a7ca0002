/-
  Plain laws about the functions of pulses: writing, as specified; the law PulsesWrite.
  Conditions: none.
-/
import Derived.Test.YtekplngjaddccaaPuC
set_option linter.all false
namespace Go.Law
open Go Go.AM

theorem l3_pos (rec2 : List Int → Int → Int → Option (List Int × Int)) (p : Pulse) (hp : 0 ≤ p.Pitch ∧ p.Pitch ≤ 999) (v13 q18 q20 v23 x : Int) (hx : idx [w64 (q18 + 1), w64 (q20 + 1)] v23 = some x) :
    ∀ (k m i : Nat) (out : List Int) (t : Int), out ≠ [] → 1 ≤ i → x = i + k → k < m → i + k < 1000 → out.length + k < 100000 → 0 ≤ t → t + 999 * k < 1000000000 →
    ref13_Write_l3 rec2 p v13 q18 q20 v23 m out t (i : Int) = ref13_Write_j5 rec2 v23 (adds p.Pitch k p.Pitch out t).1 (adds p.Pitch k p.Pitch out t).2 := by
  intro k
  induction k with
  | zero =>
    intro m i out t hne h1 hxe hm hi ho h3 h4
    obtain ⟨m, rfl⟩ : ∃ k, m = k + 1 := ⟨m - 1, by omega⟩
    simp only [ref13_Write_l3, ref13_Write_l3_b, adds, hx, Option.bind_some]
    rw [if_neg (by simp; omega)]
  | succ k ih =>
    intro m i out t hne h1 hxe hm hi ho h3 h4
    obtain ⟨m, rfl⟩ : ∃ k, m = k + 1 := ⟨m - 1, by omega⟩
    simp only [ref13_Write_l3, ref13_Write_l3_b, adds, hx, Option.bind_some, hne, if_false, ref13_Write_j6]
    rw [if_pos (by simp; omega), if_pos (by simp; omega), w64_id (x := t + p.Pitch) (by omega) (by omega), app_ok (by simp; omega)]
    simp only [Option.bind_some]
    rw [w64_id (by omega) (by omega)]
    have h := ih m (i + 1) (out ++ [t + p.Pitch]) (t + p.Pitch) (by simp) (by omega) (by push_cast at hxe ⊢; omega) (by omega) (by omega) (by simp; omega) (by omega) (by push_cast at h4; omega)
    push_cast at h
    exact h
theorem l3_eq (rec2 : List Int → Int → Int → Option (List Int × Int)) (p : Pulse) (hp : 0 ≤ p.Pitch ∧ p.Pitch ≤ 999) (hg : 0 ≤ p.Gap ∧ p.Gap ≤ 999) (hps : 0 ≤ p.Pause ∧ p.Pause ≤ 999) (v13 q18 q20 v23 x d : Int) (hx : idx [w64 (q18 + 1), w64 (q20 + 1)] v23 = some x)
    (k m : Nat) (out : List Int) (t : Int) (hd : d = if v23 > 0 then p.Gap else p.Pause) (hout : out = [] ↔ ¬ (v23 > 0 ∨ v13 > 0)) (hxe : x = k) (hk : 1 ≤ k) (hm : k + 1 < m) (hi : k < 1000) (ho : out.length + k < 100000) (h3 : 0 ≤ t) (h4 : t + 999 * k < 1000000000) :
    ref13_Write_l3 rec2 p v13 q18 q20 v23 m out t 0 = ref13_Write_j5 rec2 v23 (adds p.Pitch k d out t).1 (adds p.Pitch k d out t).2 := by
  obtain ⟨m, rfl⟩ : ∃ k, m = k + 1 := ⟨m - 1, by omega⟩
  obtain ⟨k, rfl⟩ : ∃ j, k = j + 1 := ⟨k - 1, by omega⟩
  simp only [ref13_Write_l3, ref13_Write_l3_b, adds, hx, Option.bind_some, ref13_Write_j6]
  rw [if_pos (by simp; omega), if_neg (by simp)]
  push_cast at h4 hxe
  have key : ∀ T, 0 ≤ T → T ≤ t + 999 → (Option.bind (app out [T]) fun l33 => ref13_Write_l3 rec2 p v13 q18 q20 v23 m l33 T (w64 (0 + 1))) = ref13_Write_j5 rec2 v23 (adds p.Pitch k p.Pitch (out ++ [T]) T).1 (adds p.Pitch k p.Pitch (out ++ [T]) T).2 := fun T g1 g2 => by
    rw [app_ok (by simp; omega)]
    simp only [Option.bind_some]
    exact l3_pos rec2 p hp v13 q18 q20 v23 x hx k m 1 (out ++ [T]) T (by simp) (by omega) (by push_cast; omega) (by omega) (by omega) (by simp; omega) g1 (by omega)
  by_cases h23 : v23 > 0
  · have hne : out ≠ [] := fun e => (hout.1 e) (.inl h23)
    rw [if_pos (by simpa using h23), w64_id (by omega) (by omega), key (t + p.Gap) (by omega) (by omega)]
    simp only [hne, if_false, hd, h23, if_true]
  · rw [if_neg (by simpa using h23)]
    by_cases h13 : v13 > 0
    · have hne : out ≠ [] := fun e => (hout.1 e) (.inr h13)
      rw [if_pos (by simpa using h13), w64_id (by omega) (by omega), key (t + p.Pause) (by omega) (by omega)]
      simp only [hne, if_false, hd, h23]
    · have he : out = [] := hout.2 (by omega)
      rw [if_neg (by simpa using h13), key t h3 (by omega)]
      simp only [he, if_true]
theorem rWrite_l {n : Nat} (p : Pulse) (hv : valid p = true) (hn : 100 ≤ n) (a1 : List Int) (ha : a1.length ≤ 1000) (hsel : ∀ x, x ∈ a1 → isSel p x = true) : ∀ (l pre : List Int) (m : Nat) (out : List Int) (t : Int), a1 = pre ++ l → l.length < m → (out = [] ↔ pre = []) →
    out.length ≤ 20 * pre.length → 0 ≤ t → t ≤ 100000 + 20000 * pre.length → ref13_Write_l1 n p a1 m out t (pre.length : Int) = ref13_Write_j2 (wr p l out t).1 (wr p l out t).2 := by
  obtain ⟨v1, v2, v3, v4, v5, v6, _⟩ := valid_iff hv
  intro l
  induction l with
  | nil =>
    intro pre m out t he hm hne ho h3 h4
    obtain ⟨m, rfl⟩ : ∃ k, m = k + 1 := ⟨m - 1, by omega⟩
    simp only [ref13_Write_l1, ref13_Write_l1_b, wr]
    rw [if_neg (by simp [he])]
  | cons x l ih =>
    intro pre m out t he hm hne ho h3 h4
    simp at hm
    have hl : a1.length = pre.length + (l.length + 1) := by simp [he]
    obtain ⟨m, rfl⟩ : ∃ k, m = k + 1 := ⟨m - 1, by omega⟩
    obtain ⟨b1, b2, b3, b4, b5⟩ := sel_bounds hv (hsel x (by simp [he]))
    obtain ⟨N, rfl⟩ : ∃ N, n = N + 3 := ⟨n - 3, by omega⟩
    simp only [ref13_Write_l1, ref13_Write_l1_b, wr]
    rw [if_pos (by simp <;> omega), show idx a1 (pre.length : Int) = some x by rw [he, idx_mid]]
    simp only [Option.bind_some]
    rw [quo_nn b1 (by omega) (by omega)]
    simp only [Option.bind_some]
    rw [rem_nn b1 (by omega)]
    simp only [Option.bind_some]
    have hpre : out = [] ↔ ¬ ((0 : Int) > 0 ∨ (pre.length : Int) > 0) := by
      rw [hne]
      constructor
      · intro e; subst e; simp
      · intro e; exact List.eq_nil_of_length_eq_zero (by omega)
    have t1 := adds_time p.Pitch (by omega) (x / p.Numbers + 1).toNat p.Pause out t (by omega) (by omega)
    have l1 := adds_len p.Pitch (x / p.Numbers + 1).toNat p.Pause out t
    have e1 : ∀ rec2, ref13_Write_l3 rec2 p (pre.length : Int) (x / p.Numbers) (x % p.Numbers) 0 (N + 3) out t 0 = ref13_Write_j5 rec2 0 (adds p.Pitch (x / p.Numbers + 1).toNat p.Pause out t).1 (adds p.Pitch (x / p.Numbers + 1).toNat p.Pause out t).2 := fun rec2 =>
      l3_eq rec2 p (by omega) (by omega) (by omega) _ _ _ 0 (x / p.Numbers + 1) p.Pause (by rw [w64_id (x := x / p.Numbers + 1) (by omega) (by omega)]; rfl) _ _ out t (by simp) hpre (by omega) (by omega) (by omega) (by omega) (by omega) h3 (by omega)
    generalize adds p.Pitch (x / p.Numbers + 1).toNat p.Pause out t = s1 at t1 l1 e1 ⊢
    have t2 := adds_time p.Pitch (by omega) (x % p.Numbers + 1).toNat p.Gap s1.1 s1.2 (by omega) (by omega)
    have l2 := adds_len p.Pitch (x % p.Numbers + 1).toNat p.Gap s1.1 s1.2
    have e2 : ∀ rec2, ref13_Write_l3 rec2 p (pre.length : Int) (x / p.Numbers) (x % p.Numbers) 1 (N + 3) s1.1 s1.2 0 = ref13_Write_j5 rec2 1 (adds p.Pitch (x % p.Numbers + 1).toNat p.Gap s1.1 s1.2).1 (adds p.Pitch (x % p.Numbers + 1).toNat p.Gap s1.1 s1.2).2 := fun rec2 =>
      l3_eq rec2 p (by omega) (by omega) (by omega) _ _ _ 1 (x % p.Numbers + 1) p.Gap (by rw [w64_id (x := x % p.Numbers + 1) (by omega) (by omega)]; rfl) _ _ s1.1 s1.2 (by simp) (by
        constructor
        · intro e; rw [e] at l1; simp at l1; omega
        · intro e; exact (e (.inl (by omega))).elim) (by omega) (by omega) (by omega) (by omega) (by omega) (by omega) (by omega)
    generalize adds p.Pitch (x % p.Numbers + 1).toNat p.Gap s1.1 s1.2 = s2 at t2 l2 e2 ⊢
    have h := ih (pre ++ [x]) m s2.1 s2.2 (by simp [he]) (by omega) (by
      constructor
      · intro e; rw [e] at l2; simp at l2; omega
      · intro e; simp at e) (by simp; omega) (by omega) (by simp; omega)
    rw [show (((pre ++ [x]).length : Nat) : Int) = (pre.length : Int) + 1 by simp] at h
    simp only [ref13_Write_l2, ref13_Write_l2_b]
    rw [if_pos (by decide), e1]
    simp only [ref13_Write_j5, ref13_Write_l2, ref13_Write_l2_b]
    rw [if_pos (by decide), show w64 (0 + 1) = 1 by decide, e2]
    simp only [ref13_Write_j5, ref13_Write_l2, ref13_Write_l2_b]
    rw [if_neg (by decide)]
    simp only [ref13_Write_j4]
    rw [w64_id (by omega) (by omega)]
    exact h
end Go.Law
