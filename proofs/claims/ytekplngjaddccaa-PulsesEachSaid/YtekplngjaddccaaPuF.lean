/-
  Plain laws about the functions of pulses: clean pulses, as the code reads them.
  Conditions: none.
-/
import Derived.Test.YtekplngjaddccaaPuE
set_option linter.all false
namespace Go.Law
open Go Go.AM

def selOf (p : Pulse) (g h : Int) : Int := (g - 1) * p.Numbers + h - 1
def good (p : Pulse) (g h : Int) : Bool := inR g 1 p.Letters && inR h 1 p.Numbers
def sameD (p : Pulse) (d : Int) : Bool := inR d (p.Pitch - p.Slack) (p.Pitch + p.Slack)
/-- The selections of pulses behind one at y, of whose selection so many came. -/
def cl (p : Pulse) : Int → Int → Int → List Int → List Int → Option (List Int)
  | _, g, h, out, [] => if good p g h then some (out ++ [selOf p g h]) else none
  | y, g, h, out, x :: l =>
    if x - y ≥ p.Pause then (if good p g h then cl p x 1 0 (out ++ [selOf p g h]) l else none)
    else if x - y ≥ p.Gap then (if h > 0 then none else cl p x g 1 out l)
    else if sameD p (x - y) then (if h > 0 then cl p x g (h + 1) out l else cl p x (g + 1) h out l)
    else none
def clean (p : Pulse) : List Int → Option (List Int)
  | [] => some []
  | x :: l => cl p x 1 0 [] l
def toPair : Option (List Int) → List Int × Bool
  | none => ([], false)
  | some l => (l, true)
theorem list_c1_eq (p : Pulse) (hv : valid p = true) (g h : Int) (hg : 1 ≤ g ∧ g ≤ 100000) (hh : 0 ≤ h ∧ h ≤ 100000) (out : List Int) (ho : out.length < 100000) :
    pulses_train_list_c1 (⟨g, h⟩ : Groups_) (⟨p⟩ : Train_) out = some (good p g h, out ++ [selOf p g h]) := by
  obtain ⟨v1, v2, _⟩ := valid_iff hv
  have hm : 0 ≤ (g - 1) * p.Numbers ∧ (g - 1) * p.Numbers ≤ 100000 * 5 := ⟨Int.mul_nonneg (by omega) (by omega), Int.mul_le_mul (by omega) v2.2 (by omega) (by omega)⟩
  unfold pulses_train_list_c1
  simp only
  rw [w64_id (x := g - 1) (by omega) (by omega), w64_id (x := (g - 1) * p.Numbers) (by omega) (by omega), w64_id (x := (g - 1) * p.Numbers + h) (by omega) (by omega), w64_id (by omega) (by omega), app_ok (by simp; omega)]
  simp only [Option.bind_some, within_eq, pulses_train_list_c1_j1, good, selOf]
  cases inR g 1 p.Letters <;> simp
theorem says_eq (p : Pulse) (hv : valid p = true) (d : Int) : pulses_train_says (⟨p⟩ : Train_) d = some (if d ≥ p.Pause then 3 else if d ≥ p.Gap then 2 else if sameD p d then 1 else 0) := by
  obtain ⟨v1, v2, v3, v4, v5, v6, _⟩ := valid_iff hv
  unfold pulses_train_says
  simp only [within_eq, Option.bind_some]
  rw [w64_id (x := p.Pitch - p.Slack) (by omega) (by omega), w64_id (x := p.Pitch + p.Slack) (by omega) (by omega)]
  simp only [decide_eq_true_eq]
  split
  · rfl
  · split
    · rfl
    · show (if sameD p d = true then _ else _) = _
      cases sameD p d <;> rfl
theorem list_l (p : Pulse) (hv : valid p = true) (a1 : List Int) (ha : a1.length ≤ 1000) (htm : ∀ x, x ∈ a1 → 0 ≤ x ∧ x ≤ 99999) : ∀ (l pre : List Int) (m : Nat) (y g h : Int) (out : List Int), a1 = pre ++ y :: l → l.length < m →
    1 ≤ g ∧ g ≤ pre.length + 1 → 0 ≤ h ∧ h ≤ pre.length + 1 → out.length ≤ pre.length → pulses_train_list_l1 (⟨p⟩ : Train_) a1 m ((pre.length : Int) + 1) g h out = some (toPair (cl p y g h out l)) := by
  intro l
  induction l with
  | nil =>
    intro pre m y g h out he hm hg hh ho
    have hl : a1.length = pre.length + 1 := by simp [he]
    obtain ⟨m, rfl⟩ : ∃ k, m = k + 1 := ⟨m - 1, by omega⟩
    simp only [pulses_train_list_l1, pulses_train_list_l1_b, pulses_train_list_j1]
    rw [if_neg (by simp; omega), if_pos (by simp; omega), list_c1_eq p hv g h (by omega) (by omega) out (by omega)]
    simp only [Option.bind_some, pulses_train_list_j2, cl]
    cases good p g h <;> simp [toPair]
  | cons x l ih =>
    intro pre m y g h out he hm hg hh ho
    simp at hm
    have hl : a1.length = pre.length + (l.length + 2) := by simp [he]
    obtain ⟨m, rfl⟩ : ∃ k, m = k + 1 := ⟨m - 1, by omega⟩
    have hx := htm x (by simp [he])
    have hy := htm y (by simp [he])
    have i1 : idx a1 ((pre.length : Int) + 1) = some x := by
      have := idx_mid (pre ++ [y]) x l
      rw [show (((pre ++ [y]).length : Nat) : Int) = (pre.length : Int) + 1 by simp] at this
      rw [he]; simpa using this
    have i2 : idx a1 (w64 ((pre.length : Int) + 1 - 1)) = some y := by
      rw [w64_id (by omega) (by omega), show (pre.length : Int) + 1 - 1 = pre.length by omega, he, idx_mid]
    have hr : ∀ (g' h' : Int) (out' : List Int), 1 ≤ g' ∧ g' ≤ pre.length + 2 → 0 ≤ h' ∧ h' ≤ pre.length + 2 → out'.length ≤ pre.length + 1 →
        pulses_train_list_j3 (pulses_train_list_l1 (⟨p⟩ : Train_) a1 m) ((pre.length : Int) + 1) g' h' out' = some (toPair (cl p x g' h' out' l)) := fun g' h' out' hg' hh' ho' => by
      have := ih (pre ++ [y]) m x g' h' out' (by simp [he]) (by omega) (by simp; omega) (by simp; omega) (by simp; omega)
      rw [show (((pre ++ [y]).length : Nat) : Int) = (pre.length : Int) + 1 by simp] at this
      simp only [pulses_train_list_j3]
      rw [w64_id (by omega) (by omega)]
      exact this
    simp only [pulses_train_list_l1, pulses_train_list_l1_b]
    rw [if_pos (by simp; omega), i1]
    simp only [Option.bind_some]
    rw [if_neg (by simp; omega), i2]
    simp only [Option.bind_some]
    rw [w64_id (x := x - y) (by omega) (by omega), says_eq p hv]
    simp only [Option.bind_some, cl]
    by_cases d1 : x - y ≥ p.Pause
    · simp only [d1, if_true]
      rw [if_neg (by decide), if_neg (by decide), if_pos (by decide), list_c1_eq p hv g h (by omega) (by omega) out (by omega)]
      simp only [Option.bind_some]
      cases good p g h with
      | false => simp [toPair]
      | true => simpa using hr 1 0 (out ++ [selOf p g h]) (by omega) (by omega) (by simp; omega)
    · simp only [d1, if_false]
      by_cases d2 : x - y ≥ p.Gap
      · simp only [d2, if_true]
        rw [if_neg (by decide), if_pos (by decide)]
        by_cases hp : h > 0
        · simp [hp, toPair]
        · simp only [hp, if_false]
          rw [if_neg (by simpa using hp)]
          exact hr g 1 out (by omega) (by omega) (by omega)
      · simp only [d2, if_false]
        cases hsd : sameD p (x - y) with
        | false => simp [toPair]
        | true =>
          simp only [if_true]
          rw [if_pos (by decide)]
          by_cases hp : h > 0
          · rw [if_pos (by simpa using hp), w64_id (by omega) (by omega)]
            simp only [hp, if_true]
            exact hr g (h + 1) out (by omega) (by omega) (by omega)
          · rw [if_neg (by simpa using hp), w64_id (by omega) (by omega)]
            simp only [hp, if_false]
            exact hr (g + 1) h out (by omega) (by omega) (by omega)
theorem list_eq {n : Nat} (p : Pulse) (hv : valid p = true) (l : List Int) (ha : l.length ≤ 1000) (htm : ∀ x, x ∈ l → 0 ≤ x ∧ x ≤ 99999) (hn : 1002 ≤ n) : pulses_train_list n (⟨p⟩ : Train_) l = some (toPair (clean p l)) := by
  obtain ⟨n, rfl⟩ : ∃ k, n = k + 1 := ⟨n - 1, by omega⟩
  unfold pulses_train_list
  cases l with
  | nil => simp [pulses_train_list_l1, pulses_train_list_l1_b, pulses_train_list_j1, pulses_train_list_j2, clean, toPair]
  | cons x l =>
    have h := list_l p hv (x :: l) ha htm l [] n x 1 0 [] rfl (by simp at ha; omega) (by simp) (by simp) (by simp)
    simp only [pulses_train_list_l1, pulses_train_list_l1_b]
    rw [if_pos (by simp <;> omega), show idx (x :: l) 0 = some x from rfl]
    simp only [Option.bind_some]
    rw [if_pos (by decide)]
    simp only [pulses_train_list_j3]
    rw [show w64 (0 + 1) = 1 by decide]
    simpa [clean] using h
end Go.Law
