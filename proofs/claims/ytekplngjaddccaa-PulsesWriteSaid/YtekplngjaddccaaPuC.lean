/-
  Plain laws about the functions of pulses: writing.
  Conditions: none.
-/
import Derived.Test.YtekplngjaddccaaPuB
set_option linter.all false
namespace Go.Law
open Go Go.AM

/-- Is a number that of a selection. -/
def isSel (p : Pulse) (x : Int) : Bool := inR x 0 (w64 (w64 (p.Letters * p.Numbers) - 1))
theorem Index_any (aF : Int → Unit → Option (Bool × Unit)) (f : Int → Bool) (hf : ∀ x, aF x () = some (f x, ())) : ∀ (l pre : List Int) (m : Nat), (pre ++ l).length < 1048576 → l.length < m →
    ∃ r, slices_IndexFunc_int_l1 (pre ++ l) aF m (pre.length : Int) () = some (r, ()) ∧ decide (r ≥ 0) = l.any f := by
  intro l
  induction l with
  | nil =>
    intro pre m hs hm
    obtain ⟨m, rfl⟩ : ∃ k, m = k + 1 := ⟨m - 1, by omega⟩
    exact ⟨-1, by simp [slices_IndexFunc_int_l1, slices_IndexFunc_int_l1_b, slices_IndexFunc_int_j1], by simp⟩
  | cons c l ih =>
    intro pre m hs hm
    obtain ⟨m, rfl⟩ : ∃ k, m = k + 1 := ⟨m - 1, by omega⟩
    obtain ⟨r, h1, h2⟩ := ih (pre ++ [c]) m (by simpa using hs) (by simp at hm; omega)
    rw [show (((pre ++ [c]).length : Nat) : Int) = (pre.length : Int) + 1 by simp, show pre ++ [c] ++ l = pre ++ c :: l by simp] at h1
    simp at hs hm
    simp only [slices_IndexFunc_int_l1, slices_IndexFunc_int_l1_b]
    rw [if_pos (by simp <;> omega), idx_mid]
    simp only [Option.bind_some, hf]
    by_cases hb : f c = true
    · exact ⟨pre.length, by simp [hb], by simp [hb]⟩
    · refine ⟨r, ?_, by rw [h2]; simp [hb]⟩
      rw [w64_id (by omega) (by omega), if_neg hb]
      exact h1
theorem Contains_any {n : Nat} (aF : Int → Unit → Option (Bool × Unit)) (f : Int → Bool) (hf : ∀ x, aF x () = some (f x, ())) (l : List Int) (hs : l.length < 1048576) (hn : l.length < n) :
    slices_ContainsFunc_int n aF l () = some (l.any f, ()) := by
  obtain ⟨r, h1, h2⟩ := Index_any aF f hf l [] n (by simpa using hs) hn
  have h1 : slices_IndexFunc_int n aF l () = some (r, ()) := h1
  simp only [slices_ContainsFunc_int, h1, Option.bind_some, h2]
theorem IsList_eq {n : Nat} (p : Pulse) (a1 : List Int) (hs : a1.length < 1048576) (hn : a1.length < n) : ref13_IsList n p a1 = some (a1.all (isSel p) && decide (a1.length ≤ 24)) := by
  have key : ∀ (l pre : List Int) (m : Nat), a1 = pre ++ l → l.length < m → ref13_IsList_l1 p a1 m (pre.length : Int) = some (l.all (isSel p) && decide (a1.length ≤ 24)) := by
    intro l
    induction l with
    | nil =>
      intro pre m he hm
      obtain ⟨m, rfl⟩ : ∃ k, m = k + 1 := ⟨m - 1, by omega⟩
      simp only [ref13_IsList_l1, ref13_IsList_l1_b, ref13_IsList_j1]
      rw [if_neg (by simp [he])]
      simp <;> omega
    | cons x l ih =>
      intro pre m he hm
      simp at hm
      have hl : a1.length = pre.length + (l.length + 1) := by simp [he]
      obtain ⟨m, rfl⟩ : ∃ k, m = k + 1 := ⟨m - 1, by omega⟩
      have h := ih (pre ++ [x]) m (by simp [he]) (by omega)
      rw [show (((pre ++ [x]).length : Nat) : Int) = (pre.length : Int) + 1 by simp] at h
      simp only [ref13_IsList_l1, ref13_IsList_l1_b]
      rw [if_pos (by simp <;> omega), show idx a1 (pre.length : Int) = some x by rw [he, idx_mid], w64_id (by omega) (by omega), h]
      simp only [Option.bind_some, ref13_IsSelection, rwithin_eq, List.all_cons]
      show (if (!isSel p x) = true then _ else _) = _
      cases isSel p x <;> simp
  exact key a1 [] n rfl hn

/-- Many pulses behind each other: the first one so much later. -/
def adds (pitch : Int) : Nat → Int → List Int → Int → List Int × Int
  | 0, _, out, t => (out, t)
  | k + 1, d, out, t => adds pitch k pitch (out ++ [if out = [] then t else t + d]) (if out = [] then t else t + d)
theorem adds_len (pitch : Int) : ∀ (k : Nat) (d : Int) (out : List Int) (t : Int), (adds pitch k d out t).1.length = out.length + k
  | 0, _, _, _ => rfl
  | k + 1, d, out, t => by simp only [adds, adds_len pitch k]; simp; omega
theorem adds_time (pitch : Int) (hp : 0 ≤ pitch ∧ pitch ≤ 999) : ∀ (k : Nat) (d : Int) (out : List Int) (t : Int), 0 ≤ d → d ≤ 999 → t ≤ (adds pitch k d out t).2 ∧ (adds pitch k d out t).2 ≤ t + 999 * k
  | 0, _, _, _, _, _ => by simp [adds]
  | k + 1, d, out, t, h1, h2 => by
    have hb : t ≤ (if out = [] then t else t + d) ∧ (if out = [] then t else t + d) ≤ t + d := by split <;> omega
    have h := adds_time pitch hp k pitch (out ++ [if out = [] then t else t + d]) (if out = [] then t else t + d) hp.1 hp.2
    simp only [adds]
    generalize (if out = [] then t else t + d) = T at hb h ⊢
    push_cast
    omega
theorem c2_l (p : Pulse) (hp : 0 ≤ p.Pitch ∧ p.Pitch ≤ 999) (a1 : Int) : ∀ (k m i : Nat) (d : Int) (out : List Int) (t : Int), a1 = i + k → k < m → i + k < 1000 → out.length + k < 100000 → 0 ≤ d → d ≤ 999 → 0 ≤ t → t + 999 * k < 1000000000 →
    pulses_Write_c2_l1 a1 p m d (i : Int) out t = some ((), adds p.Pitch k d out t) := by
  intro k
  induction k with
  | zero =>
    intro m i d out t ha hm hi ho h1 h2 h3 h4
    obtain ⟨m, rfl⟩ : ∃ k, m = k + 1 := ⟨m - 1, by omega⟩
    simp only [pulses_Write_c2_l1, pulses_Write_c2_l1_b, adds]
    rw [if_neg (by simp; omega)]
  | succ k ih =>
    intro m i d out t ha hm hi ho h1 h2 h3 h4
    obtain ⟨m, rfl⟩ : ∃ k, m = k + 1 := ⟨m - 1, by omega⟩
    have hw : w64 (t + d) = t + d := w64_id (by omega) (by omega)
    simp only [pulses_Write_c2_l1, pulses_Write_c2_l1_b, pulses_Write_c2_j1, adds]
    rw [if_pos (by simp; omega), hw]
    have key : ∀ t', 0 ≤ t' → t' ≤ t + d → (Option.bind (app out [t']) fun l9 => pulses_Write_c2_l1 a1 p m p.Pitch (w64 ((i : Int) + 1)) l9 t') = some ((), adds p.Pitch k p.Pitch (out ++ [t']) t') := fun t' g1 g2 => by
      rw [app_ok (by simp; omega)]
      simp only [Option.bind_some]
      rw [w64_id (by omega) (by omega)]
      have h := ih m (i + 1) p.Pitch (out ++ [t']) t' (by push_cast; push_cast at ha; omega) (by omega) (by omega) (by simp; omega) hp.1 hp.2 g1 (by push_cast at h4; omega)
      push_cast at h
      exact h
    by_cases ho : out = []
    · rw [if_neg (by simp [ho])]
      simp only [ho, if_true]
      have h := key t h3 (by omega)
      rw [ho] at h
      exact h
    · rw [if_pos (by have := List.length_pos_iff.2 ho; simp; omega)]
      simp only [ho, if_false]
      exact key (t + d) (by omega) (by omega)
/-- The pulses of selections. -/
def wr (p : Pulse) : List Int → List Int → Int → List Int × Int
  | [], out, t => (out, t)
  | x :: l, out, t =>
    let s1 := adds p.Pitch (x / p.Numbers + 1).toNat p.Pause out t
    let s2 := adds p.Pitch (x % p.Numbers + 1).toNat p.Gap s1.1 s1.2
    wr p l s2.1 s2.2
theorem sel_bounds {p : Pulse} (hv : valid p = true) {x : Int} (hx : isSel p x = true) : 0 ≤ x ∧ x < p.Letters * p.Numbers ∧ x < 25 ∧ (0 ≤ x / p.Numbers ∧ x / p.Numbers < 5) ∧ (0 ≤ x % p.Numbers ∧ x % p.Numbers < 5) := by
  obtain ⟨h1, h2, _⟩ := valid_iff hv
  have hm : 1 ≤ p.Letters * p.Numbers ∧ p.Letters * p.Numbers ≤ 25 := by
    constructor
    · have := Int.mul_le_mul h1.1 h2.1 (by omega) (by omega); simpa using this
    · have := Int.mul_le_mul h1.2 h2.2 (by omega) (by omega); simpa using this
  simp only [isSel] at hx
  rw [w64_id (x := p.Letters * p.Numbers) (by omega) (by omega), w64_id (by omega) (by omega), inR_iff] at hx
  have hlt : x < p.Letters * p.Numbers := by omega
  refine ⟨hx.1, hlt, by omega, ⟨Int.ediv_nonneg hx.1 (by omega), ?_⟩, ⟨Int.emod_nonneg _ (by omega), ?_⟩⟩
  · have := Int.ediv_lt_of_lt_mul (by omega) hlt
    omega
  · have := Int.emod_lt_of_pos x (show 0 < p.Numbers by omega)
    omega
theorem pWrite_l {n : Nat} (p : Pulse) (hv : valid p = true) (hn : 100 ≤ n) (a1 : List Int) (ha : a1.length ≤ 1000) (hsel : ∀ x, x ∈ a1 → isSel p x = true) : ∀ (l pre : List Int) (m : Nat) (out : List Int) (t : Int), a1 = pre ++ l → l.length < m →
    out.length ≤ 20 * pre.length → 0 ≤ t → t ≤ 100000 + 20000 * pre.length → pulses_Write_l1 n p a1 m (pre.length : Int) out t = pulses_Write_j2 (wr p l out t).1 (wr p l out t).2 := by
  obtain ⟨v1, v2, v3, v4, v5, v6, _⟩ := valid_iff hv
  intro l
  induction l with
  | nil =>
    intro pre m out t he hm ho h3 h4
    obtain ⟨m, rfl⟩ : ∃ k, m = k + 1 := ⟨m - 1, by omega⟩
    simp only [pulses_Write_l1, pulses_Write_l1_b, wr]
    rw [if_neg (by simp [he])]
  | cons x l ih =>
    intro pre m out t he hm ho h3 h4
    simp at hm
    have hl : a1.length = pre.length + (l.length + 1) := by simp [he]
    obtain ⟨m, rfl⟩ : ∃ k, m = k + 1 := ⟨m - 1, by omega⟩
    obtain ⟨b1, b2, b3, b4, b5⟩ := sel_bounds hv (hsel x (by simp [he]))
    simp only [pulses_Write_l1, pulses_Write_l1_b, wr]
    rw [if_pos (by simp <;> omega), show idx a1 (pre.length : Int) = some x by rw [he, idx_mid]]
    simp only [Option.bind_some]
    rw [quo_nn b1 (by omega) (by omega)]
    simp only [Option.bind_some]
    rw [rem_nn b1 (by omega), w64_id (x := x / p.Numbers + 1) (by omega) (by omega)]
    have e1 : pulses_Write_c2 n p.Pause (x / p.Numbers + 1) p (out, t) = some ((), adds p.Pitch (x / p.Numbers + 1).toNat p.Pause out t) :=
      c2_l p (by omega) _ (x / p.Numbers + 1).toNat n 0 p.Pause out t (by simp; omega) (by omega) (by omega) (by omega) (by omega) (by omega) h3 (by omega)
    rw [e1]
    simp only [Option.bind_some]
    have t1 := adds_time p.Pitch (by omega) (x / p.Numbers + 1).toNat p.Pause out t (by omega) (by omega)
    have l1 := adds_len p.Pitch (x / p.Numbers + 1).toNat p.Pause out t
    generalize adds p.Pitch (x / p.Numbers + 1).toNat p.Pause out t = s1 at t1 l1 ⊢
    rw [w64_id (x := x % p.Numbers + 1) (by omega) (by omega)]
    have e2 : pulses_Write_c2 n p.Gap (x % p.Numbers + 1) p (s1.1, s1.2) = some ((), adds p.Pitch (x % p.Numbers + 1).toNat p.Gap s1.1 s1.2) :=
      c2_l p (by omega) _ (x % p.Numbers + 1).toNat n 0 p.Gap s1.1 s1.2 (by simp; omega) (by omega) (by omega) (by omega) (by omega) (by omega) (by omega) (by omega)
    rw [e2]
    simp only [Option.bind_some]
    have t2 := adds_time p.Pitch (by omega) (x % p.Numbers + 1).toNat p.Gap s1.1 s1.2 (by omega) (by omega)
    have l2 := adds_len p.Pitch (x % p.Numbers + 1).toNat p.Gap s1.1 s1.2
    generalize adds p.Pitch (x % p.Numbers + 1).toNat p.Gap s1.1 s1.2 = s2 at t2 l2 ⊢
    rw [w64_id (by omega) (by omega)]
    have h := ih (pre ++ [x]) m s2.1 s2.2 (by simp [he]) (by omega) (by simp; omega) (by omega) (by simp; omega)
    rw [show (((pre ++ [x]).length : Nat) : Int) = (pre.length : Int) + 1 by simp] at h
    exact h
end Go.Law
