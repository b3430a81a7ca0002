/-
  Plain laws.
  Conditions: none.
-/
import Derived.Test.YtapcibbbmeomkaaMd
import Derived.Test.YtapcibbbmeomkaaPlA
import Derived.Test.YtapcibbbmeomkaaAmSd
set_option linter.all false
namespace Go.Law
open Go Go.AM

/-- A loop over a list. -/
theorem loopL {α S R : Type} (F : Nat → Int → S → Option R) (xs : List α) (spec : List α → S → Option R) (hl : xs.length < 1048576) (h0 : ∀ m s, F (m + 1) (xs.length : Int) s = spec [] s)
    (hs : ∀ m (i : Nat) x l s, idx xs (i : Int) = some x → (i : Int) < (xs.length : Int) → i < 1048576 → xs.drop (i + 1) = l → (∀ s', F m (w64 ((i : Int) + 1)) s' = spec l s') → F (m + 1) (i : Int) s = spec (x :: l) s) :
    ∀ (l : List α) (i m : Nat) (s : S), i ≤ xs.length → xs.drop i = l → l.length < m → F m (i : Int) s = spec l s := by
  intro l
  induction l with
  | nil =>
    intro i m s hi hd hm
    obtain ⟨m, rfl⟩ : ∃ k, m = k + 1 := ⟨m - 1, by omega⟩
    have : i = xs.length := by have := List.drop_eq_nil_iff.1 hd; omega
    subst this
    exact h0 m s
  | cons x l ih =>
    intro i m s hi hd hm
    obtain ⟨m, rfl⟩ : ∃ k, m = k + 1 := ⟨m - 1, by omega⟩
    simp only [List.length_cons] at hm
    have hlt : i < xs.length := by
      rcases Nat.lt_or_ge i xs.length with h | h
      · exact h
      · rw [List.drop_eq_nil_of_le h] at hd; cases hd
    rw [List.drop_eq_getElem_cons hlt] at hd
    injection hd with h1 h2
    refine hs m i x l s (by rw [idx_nat hlt, h1]) (by omega) (by omega) h2 fun s' => ?_
    rw [w64_id (by omega) (by omega)]
    exact ih (i + 1) m s' (by omega) h2 (by omega)
theorem loopL0 {α S R : Type} {F : Nat → Int → S → Option R} {xs : List α} {spec : List α → S → Option R} (hl : xs.length < 1048576) {n : Nat} (hn : xs.length < n) (s : S) (h0 : ∀ m s, F (m + 1) (xs.length : Int) s = spec [] s)
    (hs : ∀ m (i : Nat) x l s, idx xs (i : Int) = some x → (i : Int) < (xs.length : Int) → i < 1048576 → xs.drop (i + 1) = l → (∀ s', F m (w64 ((i : Int) + 1)) s' = spec l s') → F (m + 1) (i : Int) s = spec (x :: l) s) :
    F n 0 s = spec xs s := loopL F xs spec hl h0 hs xs 0 n s (by omega) rfl hn
/-- The same, where something must stand. -/
theorem loopI {α S R : Type} (F : Nat → Int → S → Option R) (xs : List α) (spec : List α → S → Option R) (I : List α → S → Prop) (hl : xs.length < 1048576) (h0 : ∀ m s, I [] s → F (m + 1) (xs.length : Int) s = spec [] s)
    (hs : ∀ m (i : Nat) x l s, I (x :: l) s → idx xs (i : Int) = some x → (i : Int) < (xs.length : Int) → i < 1048576 → xs.drop (i + 1) = l → (∀ s', I l s' → F m (w64 ((i : Int) + 1)) s' = spec l s') → F (m + 1) (i : Int) s = spec (x :: l) s) :
    ∀ (l : List α) (i m : Nat) (s : S), i ≤ xs.length → xs.drop i = l → l.length < m → I l s → F m (i : Int) s = spec l s := by
  intro l
  induction l with
  | nil =>
    intro i m s hi hd hm hI
    obtain ⟨m, rfl⟩ : ∃ k, m = k + 1 := ⟨m - 1, by omega⟩
    have : i = xs.length := by have := List.drop_eq_nil_iff.1 hd; omega
    subst this
    exact h0 m s hI
  | cons x l ih =>
    intro i m s hi hd hm hI
    obtain ⟨m, rfl⟩ : ∃ k, m = k + 1 := ⟨m - 1, by omega⟩
    simp only [List.length_cons] at hm
    have hlt : i < xs.length := by
      rcases Nat.lt_or_ge i xs.length with h | h
      · exact h
      · rw [List.drop_eq_nil_of_le h] at hd; cases hd
    rw [List.drop_eq_getElem_cons hlt] at hd
    injection hd with h1 h2
    refine hs m i x l s hI (by rw [idx_nat hlt, h1]) (by omega) (by omega) h2 fun s' hI' => ?_
    rw [w64_id (by omega) (by omega)]
    exact ih (i + 1) m s' (by omega) h2 (by omega) hI'
/-- A loop that counts up. -/
theorem loopR {S R : Type} (F : Nat → Int → S → Option R) (b : Nat) (spec : Nat → S → Option R) (hb : b < 1048576) (h0 : ∀ m s, F (m + 1) (b : Int) s = spec b s)
    (hs : ∀ m (i : Nat) s, i < b → (∀ s', F m (w64 ((i : Int) + 1)) s' = spec (i + 1) s') → F (m + 1) (i : Int) s = spec i s) :
    ∀ (d i m : Nat) (s : S), d = b - i → i ≤ b → d < m → F m (i : Int) s = spec i s := by
  intro d
  induction d with
  | zero =>
    intro i m s hd hi hm
    obtain ⟨m, rfl⟩ : ∃ k, m = k + 1 := ⟨m - 1, by omega⟩
    have : i = b := by omega
    subst this
    exact h0 m s
  | succ d ih =>
    intro i m s hd hi hm
    obtain ⟨m, rfl⟩ : ∃ k, m = k + 1 := ⟨m - 1, by omega⟩
    refine hs m i s (by omega) fun s' => ?_
    rw [w64_id (by omega) (by omega)]
    exact ih (i + 1) m s' (by omega) (by omega) (by omega)

theorem bnd_some {α β : Type} (a : α) (f : α → Option β) : Option.bind (some a) f = f a := rfl
theorem within_eq (a b c : Int) : coins_within a b c = some (inR a b c) := by
  unfold coins_within coins_within_j1 inR
  by_cases h : b ≤ a <;> simp [h]
theorem Within_eq (a b c : Int) : ref01_Within a b c = some (inR a b c) := by
  unfold ref01_Within ref01_Within_j1 inR
  by_cases h : b ≤ a <;> simp [h]
/-- Do numbers rise, behind another one. -/
def rise (lo hi : Int) : Option Int → List Int → Bool
  | _, [] => true
  | prev, x :: l => inR x lo hi && (match prev with | none => true | some y => decide (y < x)) && rise lo hi (some x) l
theorem nil_or_last (pre : List Int) : pre = [] ∨ ∃ q y, pre = q ++ [y] := by
  rcases List.eq_nil_or_concat pre with h | ⟨q, y, h⟩
  · exact .inl h
  · exact .inr ⟨q, y, by simpa using h⟩
theorem idx_last (q : List Int) (y : Int) (l : List Int) (h : (q ++ [y] ++ l).length < 1048576) : idx (q ++ [y] ++ l) (w64 (((q ++ [y]).length : Int) - 1)) = some y := by
  simp at h
  rw [w64_id (by simp <;> omega) (by simp <;> omega), show (((q ++ [y]).length : Int) - 1) = (q.length : Int) by simp, show q ++ [y] ++ l = q ++ y :: l by simp, idx_mid]
theorem Rising_l (lo hi : Int) : ∀ (l pre : List Int) (m : Nat), (pre ++ l).length < 1048576 → l.length < m →
    ref01_Rising_l1 (pre ++ l) lo hi m (pre.length : Int) = some (rise lo hi pre.getLast? l) := by
  intro l
  induction l with
  | nil =>
    intro pre m hs hm
    obtain ⟨m, rfl⟩ : ∃ k, m = k + 1 := ⟨m - 1, by omega⟩
    simp [ref01_Rising_l1, ref01_Rising_l1_b, ref01_Rising_j1, rise]
  | cons x l ih =>
    intro pre m hs hm
    obtain ⟨m, rfl⟩ : ∃ k, m = k + 1 := ⟨m - 1, by omega⟩
    have h := ih (pre ++ [x]) m (by simpa using hs) (by simp at hm; omega)
    rw [show (((pre ++ [x]).length : Nat) : Int) = (pre.length : Int) + 1 by simp, List.getLast?_concat, show pre ++ [x] ++ l = pre ++ x :: l by simp] at h
    simp at hs hm
    simp only [ref01_Rising_l1, ref01_Rising_l1_b]
    rw [if_pos (by simp <;> omega), idx_mid]
    simp only [Option.bind_some, Within_eq, rise]
    by_cases hr : inR x lo hi = true
    · rw [if_neg (by simp [hr])]
      rcases nil_or_last pre with rfl | ⟨q, y, rfl⟩
      · rw [if_neg (by simp)]
        simp only [ref01_Rising_j2]
        rw [if_neg (by simp), w64_id (by simp) (by simp), h]
        simp [hr]
      · rw [if_pos (by simp <;> omega), idx_last q y (x :: l) (by simp at hs ⊢; omega)]
        simp only [Option.bind_some, ref01_Rising_j2, List.getLast?_concat]
        by_cases hb : x ≤ y
        · rw [if_pos (by simpa using hb)]
          simp [hr, show ¬ y < x by omega]
        · rw [if_neg (by simpa using hb), w64_id (by omega) (by omega), h]
          simp [hr, show y < x by omega]
    · have hr' : inR x lo hi = false := by simpa using hr
      rw [if_pos (by simp [hr'])]
      simp [ref01_Rising_j2, hr']
theorem Rising_eq {n : Nat} (l : List Int) (lo hi : Int) (hs : l.length < 1048576) (hn : l.length < n) : ref01_Rising n l lo hi = some (rise lo hi none l) := Rising_l lo hi l [] n (by simpa using hs) hn
theorem rising_l (many most : Int) : ∀ (l pre : List Int) (m : Nat), (pre ++ l).length < 1048576 → l.length < m →
    coins_rising_l1 (pre ++ l) many most m (pre.length : Int) = some (rise 1 most pre.getLast? l && decide (((pre ++ l).length : Int) ≤ many)) := by
  intro l
  induction l with
  | nil =>
    intro pre m hs hm
    obtain ⟨m, rfl⟩ : ∃ k, m = k + 1 := ⟨m - 1, by omega⟩
    simp [coins_rising_l1, coins_rising_l1_b, coins_rising_j1, rise]
  | cons x l ih =>
    intro pre m hs hm
    obtain ⟨m, rfl⟩ : ∃ k, m = k + 1 := ⟨m - 1, by omega⟩
    have h := ih (pre ++ [x]) m (by simpa using hs) (by simp at hm; omega)
    rw [show (((pre ++ [x]).length : Nat) : Int) = (pre.length : Int) + 1 by simp, List.getLast?_concat, show pre ++ [x] ++ l = pre ++ x :: l by simp] at h
    simp at hs hm
    simp only [coins_rising_l1, coins_rising_l1_b]
    rw [if_pos (by simp <;> omega), idx_mid]
    simp only [Option.bind_some, within_eq, rise]
    by_cases hr : inR x 1 most = true
    · rw [if_neg (by simp [hr])]
      rcases nil_or_last pre with rfl | ⟨q, y, rfl⟩
      · rw [if_neg (by simp)]
        simp only [coins_rising_j2]
        rw [if_neg (by simp), w64_id (by simp) (by simp), h]
        simp [hr]
      · rw [if_pos (by simp <;> omega), idx_last q y (x :: l) (by simp at hs ⊢; omega)]
        simp only [Option.bind_some, coins_rising_j2, List.getLast?_concat]
        by_cases hb : x ≤ y
        · rw [if_pos (by simpa using hb)]
          simp [hr, show ¬ y < x by omega]
        · rw [if_neg (by simpa using hb), w64_id (by omega) (by omega), h]
          simp [hr, show y < x by omega]
    · have hr' : inR x 1 most = false := by simpa using hr
      rw [if_pos (by simp [hr'])]
      simp [coins_rising_j2, hr']
theorem rising_eq {n : Nat} (l : List Int) (many most : Int) (hs : l.length < 1048576) (hn : l.length < n) : coins_rising n l many most = some (rise 1 most none l && decide ((l.length : Int) ≤ many)) := rising_l many most l [] n (by simpa using hs) hn
/-- Is a wheel valid. -/
def valid (w : Wheel) : Bool := inR w.Round 1 200 && (rise 1 w.Round none w.Notches && decide ((w.Notches.length : Int) ≤ 12)) && (rise 1 100 none w.Coins && decide ((w.Coins.length : Int) ≤ 4))
def okLen (n : Nat) (w : Wheel) : Prop := w.Notches.length < 1048576 ∧ w.Coins.length < 1048576 ∧ w.Notches.length < n ∧ w.Coins.length < n
theorem Check_eq {n : Nat} {w : Wheel} (h : okLen n w) : coins_Check n w = some (cond (valid w) 0 10) := by
  obtain ⟨h1, h2, h3, h4⟩ := h
  unfold coins_Check coins_Check_j1 valid
  rw [within_eq, bnd_some, rising_eq _ _ _ h1 h3, rising_eq _ _ _ h2 h4, bnd_some, bnd_some]
  cases inR w.Round 1 200 <;> cases (rise 1 w.Round none w.Notches && decide ((w.Notches.length : Int) ≤ 12)) <;> cases (rise 1 100 none w.Coins && decide ((w.Coins.length : Int) ≤ 4)) <;> rfl
theorem rCheck_eq {n : Nat} {w : Wheel} (h : okLen n w) : ref01_Check n w = some (cond (valid w) 0 10) := by
  obtain ⟨h1, h2, h3, h4⟩ := h
  unfold ref01_Check ref01_Check_j1 valid
  rw [Within_eq, bnd_some, Rising_eq _ _ _ h1 h3, Rising_eq _ _ _ h2 h4, bnd_some, bnd_some]
  by_cases q1 : (w.Notches.length : Int) ≤ 12
  · have e1 : decide ((w.Notches.length : Int) > 12) = false := by simpa using q1
    rw [e1]
    by_cases q2 : (w.Coins.length : Int) ≤ 4
    · have e2 : decide ((w.Coins.length : Int) > 4) = false := by simpa using q2
      rw [e2]
      simp only [q1, q2, decide_true, Bool.and_true]
      cases inR w.Round 1 200 <;> cases rise 1 w.Round none w.Notches <;> cases rise 1 100 none w.Coins <;> rfl
    · have e2 : decide ((w.Coins.length : Int) > 4) = true := by simp; omega
      rw [e2]
      simp only [q2, decide_false, Bool.and_false]
      cases inR w.Round 1 200 <;> cases rise 1 w.Round none w.Notches <;> rfl
  · have e1 : decide ((w.Notches.length : Int) > 12) = true := by simp; omega
    rw [e1]
    simp only [q1, decide_false, Bool.and_false, Bool.false_and]
    cases inR w.Round 1 200 <;> rfl
theorem rise_mem {lo hi : Int} : ∀ {l : List Int} {p : Option Int}, rise lo hi p l = true → (∀ x, x ∈ l → lo ≤ x ∧ x ≤ hi ∧ ∀ y, p = some y → y < x) ∧ l.Pairwise (· < ·)
  | [], _, _ => ⟨fun x h => by simp at h, .nil⟩
  | x :: l, p, h => by
    simp only [rise, Bool.and_eq_true] at h
    obtain ⟨⟨h1, h2⟩, h3⟩ := h
    obtain ⟨ih1, ih2⟩ := rise_mem h3
    have h1' := inR_iff.1 h1
    have hp : ∀ y, p = some y → y < x := fun y e => by subst e; simpa using h2
    refine ⟨fun z hz => ?_, List.pairwise_cons.2 ⟨fun z hz => (ih1 z hz).2.2 x rfl, ih2⟩⟩
    rcases List.mem_cons.1 hz with rfl | hz
    · exact ⟨h1'.1, h1'.2, hp⟩
    · have := ih1 z hz
      exact ⟨this.1, this.2.1, fun y e => Int.lt_trans (hp y e) (this.2.2 x rfl)⟩
/-- What a valid wheel is. -/
structure OkW (w : Wheel) : Prop where
  r1 : 1 ≤ w.Round
  r2 : w.Round ≤ 200
  nlen : w.Notches.length ≤ 12
  clen : w.Coins.length ≤ 4
  nm : ∀ x, x ∈ w.Notches → 1 ≤ x ∧ x ≤ w.Round
  nd : w.Notches.Pairwise (· < ·)
  cm : ∀ x, x ∈ w.Coins → 1 ≤ x ∧ x ≤ 100
  cd : w.Coins.Pairwise (· < ·)
theorem valid_ok {w : Wheel} (h : valid w = true) : OkW w := by
  simp only [valid, Bool.and_eq_true, decide_eq_true_eq] at h
  obtain ⟨⟨h1, h2, h3⟩, h4, h5⟩ := h
  have h1 := inR_iff.1 h1
  obtain ⟨a1, a2⟩ := rise_mem h2
  obtain ⟨b1, b2⟩ := rise_mem h4
  exact ⟨h1.1, h1.2, by omega, by omega, fun x hx => ⟨(a1 x hx).1, (a1 x hx).2.1⟩, a2, fun x hx => ⟨(b1 x hx).1, (b1 x hx).2.1⟩, b2⟩
theorem OkW.len {w : Wheel} (h : OkW w) {n : Nat} (hn : 100 ≤ n) : okLen n w := ⟨by have := h.nlen; omega, by have := h.clen; omega, by have := h.nlen; omega, by have := h.clen; omega⟩

theorem In_eq {n : Nat} (l : List Int) (x : Int) (hs : l.length < 1048576) (hn : l.length < n) : ref01_In n l x = some (decide (x ∈ l)) := by
  have := loopL0 (F := fun m i (_ : Unit) => ref01_In_l1 l x m i) (xs := l) (spec := fun l _ => some (decide (x ∈ l))) (n := n) hs hn () (fun m s => by simp [ref01_In_l1, ref01_In_l1_b, ref01_In_j1]) (fun m i y l s hx hi _ _ hrec => by
    simp only [ref01_In_l1, ref01_In_l1_b]
    rw [if_pos (by simpa using hi), hx, bnd_some]
    by_cases h : y = x
    · rw [if_pos (by simpa using h)]
      simp [h]
    · rw [if_neg (by simpa using h), hrec ()]
      simp [Ne.symm h])
  exact this

/-! ### Cents -/
def nx (R p : Int) : Int := if p + 1 = R then 0 else p + 1
def hit (w : Wheel) (p : Int) : Int := if p + 1 ∈ w.Notches then 1 else 0
/-- The place and the plays after so many cents. -/
def put (w : Wheel) : Nat → Int → Int → Int × Int
  | 0, p, c => (p, c)
  | k + 1, p, c => put w k (nx w.Round p) (c + hit w p)
theorem nx_range {R p : Int} (h0 : 0 ≤ p) (h1 : p < R) : 0 ≤ nx R p ∧ nx R p < R := by
  unfold nx
  split <;> omega
theorem hit_range (w : Wheel) (p : Int) : 0 ≤ hit w p ∧ hit w p ≤ 1 := by
  unfold hit
  split <;> omega
theorem put_range {w : Wheel} (h : OkW w) : ∀ (k : Nat) (p c : Int), 0 ≤ p → p < w.Round → (0 ≤ (put w k p c).1 ∧ (put w k p c).1 < w.Round) ∧ c ≤ (put w k p c).2 ∧ (put w k p c).2 ≤ c + k
  | 0, p, c, h0, h1 => ⟨⟨h0, h1⟩, by simp [put], by simp [put]⟩
  | k + 1, p, c, h0, h1 => by
    have hy := nx_range h0 h1
    have hx := hit_range w p
    have := put_range h k (nx w.Round p) (c + hit w p) hy.1 hy.2
    simp only [put]
    omega
theorem put_acc (w : Wheel) : ∀ (k : Nat) (p c : Int), put w k p c = ((put w k p 0).1, c + (put w k p 0).2)
  | 0, p, c => by simp [put]
  | k + 1, p, c => by
    simp only [put]
    rw [put_acc w k (nx w.Round p) (c + hit w p), put_acc w k (nx w.Round p) (0 + hit w p)]
    simp only [Prod.mk.injEq, true_and]
    omega
theorem put_add (w : Wheel) : ∀ (j k : Nat) (p c : Int), put w (j + k) p c = put w k (put w j p c).1 (put w j p c).2
  | 0, k, p, c => by simp [put]
  | j + 1, k, p, c => by
    rw [show j + 1 + k = (j + k) + 1 by omega]
    simp only [put]
    exact put_add w j k _ _
/-! ### The notches that were reached -/
theorem ediv_succ {A R : Int} (hR : 0 < R) : (A + 1) / R = A / R + (if A % R = R - 1 then 1 else 0) := by
  have h1 := Int.mul_ediv_add_emod A R
  have h2 := Int.emod_nonneg A (show R ≠ 0 by omega)
  have h3 := Int.emod_lt_of_pos A hR
  split
  · rename_i h
    have : A + 1 = R * (A / R + 1) := by rw [Int.mul_add]; omega
    rw [this, Int.mul_ediv_cancel_left _ (by omega)]
  · rename_i h
    have : A + 1 = (A % R + 1) + R * (A / R) := by omega
    rw [this, Int.add_mul_ediv_left _ _ (by omega), Int.ediv_eq_zero_of_lt (by omega) (by omega)]
    omega
theorem emod_succ {A R : Int} (hR : 0 < R) : (A + 1) % R = nx R (A % R) := by
  have h1 := Int.mul_ediv_add_emod A R
  have h2 := Int.emod_nonneg A (show R ≠ 0 by omega)
  have h3 := Int.emod_lt_of_pos A hR
  unfold nx
  split
  · rename_i h
    have : A + 1 = R * (A / R + 1) := by rw [Int.mul_add]; omega
    rw [this, Int.mul_emod_right]
  · rename_i h
    have : A + 1 = (A % R + 1) + R * (A / R) := by omega
    rw [this, Int.add_mul_emod_self_left, Int.emod_eq_of_lt (by omega) (by omega)]
theorem emod_notch {B R m : Int} (hR : 0 < R) (h1 : 1 ≤ m) (h2 : m ≤ R) : (B - m + R) % R = R - 1 ↔ m = B % R + 1 := by
  have e1 := Int.mul_ediv_add_emod B R
  have e2 := Int.emod_nonneg B (show R ≠ 0 by omega)
  have e3 := Int.emod_lt_of_pos B hR
  by_cases h : m ≤ B % R
  · have : B - m + R = (B % R - m) + R * (B / R + 1) := by rw [Int.mul_add]; omega
    rw [this, Int.add_mul_emod_self_left, Int.emod_eq_of_lt (by omega) (by omega)]
    omega
  · have : B - m + R = (B % R - m + R) + R * (B / R) := by omega
    rw [this, Int.add_mul_emod_self_left, Int.emod_eq_of_lt (by omega) (by omega)]
    omega
/-- How often the notches are reached. -/
def reached (R e p : Int) : List Int → Int
  | [] => 0
  | m :: l => (e - m + R) / R - (p - m + R) / R + reached R e p l
def turn (w : Wheel) (p c : Int) : Int × Int := ((p + c) % w.Round, reached w.Round (p + c) p w.Notches)
theorem reached_succ {R B p : Int} (hR : 0 < R) : ∀ (l : List Int), (∀ x, x ∈ l → 1 ≤ x ∧ x ≤ R) → l.Pairwise (· < ·) → reached R (B + 1) p l = reached R B p l + (if B % R + 1 ∈ l then 1 else 0)
  | [], _, _ => by simp [reached]
  | m :: l, h, hd => by
    have hm := h m (by simp)
    obtain ⟨d1, d2⟩ := List.pairwise_cons.1 hd
    have ih := reached_succ (B := B) (p := p) hR l (fun x hx => h x (by simp [hx])) d2
    simp only [reached]
    rw [ih, show B + 1 - m + R = (B - m + R) + 1 by omega, ediv_succ hR]
    have hn := emod_notch (B := B) hR hm.1 hm.2
    by_cases q : m = B % R + 1
    · rw [if_pos (hn.2 q), if_pos (show B % R + 1 ∈ m :: l by simp [q]), if_neg (fun hx => by have := d1 _ hx; omega)]
      omega
    · rw [if_neg (fun hx => q (hn.1 hx))]
      by_cases q2 : B % R + 1 ∈ l
      · rw [if_pos q2, if_pos (by simp [q2])]
        omega
      · rw [if_neg q2, if_neg (by simp [q2]; omega)]
        omega
theorem reached_self {R p : Int} : ∀ (l : List Int), reached R p p l = 0
  | [] => rfl
  | m :: l => by simp only [reached]; rw [reached_self l]; omega
theorem put_turn {w : Wheel} (h : OkW w) {p : Int} (h0 : 0 ≤ p) (h1 : p < w.Round) : ∀ k : Nat, put w k p 0 = turn w p k
  | 0 => by
    unfold turn
    rw [show p + ((0 : Nat) : Int) = p by simp, reached_self, Int.emod_eq_of_lt h0 h1]
    rfl
  | k + 1 => by
    have hr := h.r1
    have ih := put_turn h h0 h1 k
    rw [put_add w k 1 p 0, ih]
    unfold turn
    simp only [put]
    rw [show p + ((k + 1 : Nat) : Int) = (p + k) + 1 by simp; omega, emod_succ (by omega), reached_succ (by omega) w.Notches h.nm h.nd]
    rfl
theorem turn_range {w : Wheel} (h : OkW w) {p c : Int} (h0 : 0 ≤ p) (h1 : p < w.Round) (hc : 0 ≤ c) : (0 ≤ (turn w p c).1 ∧ (turn w p c).1 < w.Round) ∧ 0 ≤ (turn w p c).2 ∧ (turn w p c).2 ≤ c := by
  have := put_range h c.toNat p 0 h0 h1
  rw [put_turn h h0 h1, show ((c.toNat : Nat) : Int) = c by omega] at this
  omega
theorem reached_part {R e p : Int} (hR : 0 < R) (h : p ≤ e) : ∀ l : List Int, 0 ≤ reached R e p l
  | [] => by simp [reached]
  | m :: l => by
    have := reached_part hR h l
    have h2 := Int.ediv_le_ediv hR (show p - m + R ≤ e - m + R by omega)
    simp only [reached]
    omega
theorem turn_eq {n : Nat} {w : Wheel} (h : OkW w) (hn : 100 ≤ n) {p c : Int} (hp : 0 ≤ p) (hp' : p < w.Round) (hc : 0 ≤ c) (hc2 : c < 1048576) : coins_wheel_turn n ⟨w⟩ p c = some (turn w p c) := by
  have hr := h.r1
  have hr2 := h.r2
  have hl := h.nlen
  have hfin := turn_range h hp hp' hc
  unfold turn at hfin
  simp only at hfin
  have e0 : w64 (p + c) = p + c := w64_id (by omega) (by omega)
  have key := loopI (F := fun m i s => coins_wheel_turn_l1 ⟨w⟩ p c m s i) (xs := w.Notches) (spec := fun l s => some ((p + c) % w.Round, s + reached w.Round (p + c) p l)) (I := fun l s => 0 ≤ s ∧ s + reached w.Round (p + c) p l ≤ c ∧ ∀ x, x ∈ l → 1 ≤ x ∧ x ≤ w.Round) (by omega)
    (fun m s hI => by simp [coins_wheel_turn_l1, coins_wheel_turn_l1_b, coins_wheel_turn_j1, reached, e0, rem_nn (show 0 ≤ p + c by omega) (show 0 < w.Round by omega)])
    (fun m i x l s hI hx hi _ _ hrec => by
      obtain ⟨i1, i2, i3⟩ := hI
      have hxm := i3 x (by simp)
      simp only [reached] at i2
      have hrl := reached_part (R := w.Round) (e := p + c) (p := p) (by omega) (by omega) l
      have hd1 := Int.ediv_nonneg (show 0 ≤ p + c - x + w.Round by omega) (show 0 ≤ w.Round by omega)
      have hd2 := Int.ediv_nonneg (show 0 ≤ p - x + w.Round by omega) (show 0 ≤ w.Round by omega)
      have hd3 := Int.ediv_le_self w.Round (show 0 ≤ p + c - x + w.Round by omega)
      have hd5 := Int.ediv_le_ediv (show 0 < w.Round by omega) (show p - x + w.Round ≤ p + c - x + w.Round by omega)
      simp only [coins_wheel_turn_l1, coins_wheel_turn_l1_b]
      rw [if_pos (by simpa using hi), hx, bnd_some, e0, w64_id (x := p + c - x) (by omega) (by omega), w64_id (x := p + c - x + w.Round) (by omega) (by omega), w64_id (x := p - x) (by omega) (by omega), w64_id (x := p - x + w.Round) (by omega) (by omega),
        quo_nn (by omega) (by omega) (by omega), quo_nn (by omega) (by omega) (by omega), bnd_some, bnd_some, w64_id (x := _ - _) (by omega) (by omega), w64_id (x := s + _) (by omega) (by omega),
        hrec _ ⟨by omega, by omega, fun y hy => i3 y (by simp [hy])⟩]
      simp only [reached]
      congr 2
      omega)
    w.Notches 0 n 0 (by omega) rfl (by omega) ⟨by omega, by omega, h.nm⟩
  have key : coins_wheel_turn_l1 ⟨w⟩ p c n 0 0 = _ := key
  unfold coins_wheel_turn
  rw [key]
  unfold turn
  rw [Int.zero_add]

/-- A stand of a wheel. -/
structure OkS (w : Wheel) (s : Stand) (b : Int) : Prop where
  p0 : 0 ≤ s.Place
  p1 : s.Place < w.Round
  c0 : 0 ≤ s.Credit
  c1 : s.Credit ≤ b
def okAct (w : Wheel) (a : Int) : Bool := inR a (-1) (w.Coins.length - 1)
def coin (w : Wheel) (a : Int) : Int := w.Coins.getD a.toNat 0
/-- The stand after an act, and whether a selection was made. -/
def actS (w : Wheel) (s : Stand) (a : Int) : Stand × Bool :=
  if 0 ≤ a then (⟨(turn w s.Place (coin w a)).1, s.Credit + (turn w s.Place (coin w a)).2⟩, false) else if s.Credit = 0 then (s, false) else (⟨0, s.Credit - 1⟩, true)
theorem coin_idx {w : Wheel} {a : Int} (h0 : 0 ≤ a) (h1 : a ≤ w.Coins.length - 1) : idx w.Coins a = some (coin w a) := by
  obtain ⟨k, rfl⟩ : ∃ k : Nat, a = k := ⟨a.toNat, by omega⟩
  have hk : k < w.Coins.length := by omega
  rw [idx_nat hk]
  simp [coin, hk]
theorem coin_range {w : Wheel} (h : OkW w) {a : Int} (h0 : 0 ≤ a) (h1 : a ≤ w.Coins.length - 1) : 1 ≤ coin w a ∧ coin w a ≤ 100 := by
  obtain ⟨k, rfl⟩ : ∃ k : Nat, a = k := ⟨a.toNat, by omega⟩
  have hk : k < w.Coins.length := by omega
  have : coin w k = w.Coins[k] := by simp [coin, hk]
  rw [this]
  exact h.cm _ (List.getElem_mem hk)
theorem actS_ok {w : Wheel} (h : OkW w) {s : Stand} {b a : Int} (hs : OkS w s b) (ha : okAct w a = true) : OkS w (actS w s a).1 (b + 100) := by
  have ha := inR_iff.1 ha
  have hr := h.r1
  unfold actS
  split
  · rename_i h0
    have hc := coin_range h h0 ha.2
    have ht := turn_range h hs.p0 hs.p1 (show 0 ≤ coin w a by omega)
    have := hs.c0
    have := hs.c1
    exact ⟨ht.1.1, ht.1.2, by show 0 ≤ s.Credit + _; omega, by show s.Credit + _ ≤ _; omega⟩
  · have := hs.c0
    have := hs.c1
    split
    · exact ⟨hs.p0, hs.p1, hs.c0, by show s.Credit ≤ b + 100; omega⟩
    · exact ⟨by show (0 : Int) ≤ 0; omega, by show (0 : Int) < _; omega, by show 0 ≤ s.Credit - 1; omega, by show s.Credit - 1 ≤ _; omega⟩
theorem act_eq {n : Nat} {w : Wheel} (h : OkW w) (hn : 200 ≤ n) {s : Stand} {b a : Int} (hs : OkS w s b) (hb : b < 1099511627776) (ha : okAct w a = true) : coins_wheel_act n ⟨w⟩ s a = some (actS w s a).1 := by
  have ha := inR_iff.1 ha
  have := hs.c0
  have := hs.c1
  unfold coins_wheel_act actS
  by_cases h0 : 0 ≤ a
  · have hc := coin_range h h0 ha.2
    have ht := turn_range h hs.p0 hs.p1 (show 0 ≤ coin w a by omega)
    rw [if_pos (by simp; omega), if_pos h0, coin_idx h0 ha.2, bnd_some, turn_eq h (by omega) hs.p0 hs.p1 (by omega) (by omega), bnd_some, w64_id (by omega) (by omega)]
  · rw [if_neg (by simp; omega), if_neg h0]
    by_cases hc : s.Credit = 0
    · rw [if_neg (by simp; omega), if_pos hc]
    · rw [if_pos (by simp; omega), if_neg hc, w64_id (by omega) (by omega)]

/-! ### slices.ContainsFunc -/
def zw : Wheel_ := ⟨⟨0, [], []⟩⟩
theorem open_eq {n : Nat} {w : Wheel} (hl : okLen n w) (aF : Wheel_ → Unit → Option (Bool × Unit)) (b : Bool) (ha : valid w = true → aF ⟨w⟩ () = some (b, ())) :
    coins_open n aF w () = some (cond (valid w) (cond b (((⟨w⟩ : Wheel_), 0), ()) ((zw, 1), ())) ((zw, 10), ())) := by
  unfold coins_open
  rw [Check_eq hl, bnd_some]
  cases hv : valid w with
  | false => rfl
  | true =>
    rw [ha hv]
    cases b <;> rfl
/-! ### Run -/
/-! ### Plays -/
theorem Copy_eq {n : Nat} {w : Wheel} (h : okLen n w) : ref01_Copy w = some w := by
  unfold ref01_Copy
  rw [app_ok (by simp; exact Nat.le_of_lt h.1), app_ok (by simp; exact Nat.le_of_lt h.2.1)]
  rfl
def farW (w : Wheel) : Bool := decide ((w.Notches.length : Int) > 40) || decide ((w.Coins.length : Int) > 40)
theorem far_eq (w : Wheel) : law01_far w = some (farW w) := by
  unfold law01_far law01_far_j1 farW
  by_cases h : (w.Notches.length : Int) > 40
  · rw [if_pos (by simpa using h)]; simp [h]
  · rw [if_neg (by simpa using h)]; simp [h]
theorem farW_len {w : Wheel} (h : farW w = false) {n : Nat} (hn : 100 ≤ n) : okLen n w := by
  simp only [farW, Bool.or_eq_false_iff, decide_eq_false_iff_not] at h
  exact ⟨by omega, by omega, by omega, by omega⟩

theorem turn_add {w : Wheel} (h : OkW w) {p c d : Int} (h0 : 0 ≤ p) (h1 : p < w.Round) (hc : 0 ≤ c) (hd : 0 ≤ d) :
    turn w p (c + d) = ((turn w (turn w p c).1 d).1, (turn w p c).2 + (turn w (turn w p c).1 d).2) := by
  obtain ⟨j, rfl⟩ : ∃ j : Nat, c = j := ⟨c.toNat, by omega⟩
  obtain ⟨k, rfl⟩ : ∃ k : Nat, d = k := ⟨d.toNat, by omega⟩
  have hr := turn_range h h0 h1 (show (0 : Int) ≤ (j : Int) by omega)
  rw [show ((j : Int) + (k : Int)) = ((j + k : Nat) : Int) by simp, ← put_turn h h0 h1 (j + k), put_add, put_acc, put_turn h h0 h1 j, put_turn h hr.1.1 hr.1.2 k]
theorem isWheel_eq {n : Nat} (hn : 100 ≤ n) (w : Wheel) : law01_isWheel n w = some (!farW w && valid w) := by
  unfold law01_isWheel law01_isWheel_j1
  rw [far_eq, bnd_some]
  cases hf : farW w with
  | true => rfl
  | false =>
    rw [rCheck_eq (farW_len hf hn), bnd_some]
    cases valid w <;> rfl
theorem joined_eq {a b : List Int} (h : a.length + b.length ≤ 1048576) : law01_joined a b = some (a ++ b) := by
  unfold law01_joined
  rw [app_ok (by simp; omega), bnd_some, app_ok (by simpa using h), bnd_some]
  simp
/-! ### The whole round -/
theorem reached_round {R q p : Int} (hR : 0 < R) : ∀ l : List Int, reached R (p + R * q) p l = q * l.length
  | [] => by simp [reached]
  | m :: l => by
    simp only [reached]
    rw [reached_round hR l, show p + R * q - m + R = (p - m + R) + R * q by omega, Int.add_mul_ediv_left _ _ (by omega), List.length_cons, Int.natCast_add, Int.mul_add]
    simp
    omega

/-! ### The reference -/
/-- Those of a list, in order. -/
def inOrder (k : List Int) : Nat → Nat → List Int
  | _, 0 => []
  | i, d + 1 => (if (i : Int) ∈ k then [(i : Int)] else []) ++ inOrder k (i + 1) d
theorem inOrder_mem {k : List Int} : ∀ {d i : Nat} {p : Int}, p ∈ inOrder k i d ↔ (i : Int) ≤ p ∧ p < i + d ∧ p ∈ k
  | 0, i, p => by simp [inOrder]; omega
  | d + 1, i, p => by
    simp only [inOrder, List.mem_append]
    rw [inOrder_mem (d := d) (i := i + 1)]
    constructor
    · rintro (h | ⟨h1, h2, h3⟩)
      · split at h
        · rename_i hs
          simp at h
          subst h
          exact ⟨by omega, by simp; omega, hs⟩
        · simp at h
      · simp at h1 h2 ⊢
        exact ⟨by omega, by omega, h3⟩
    · rintro ⟨h1, h2, h3⟩
      by_cases h : p = i
      · subst h
        left
        rw [if_pos h3]
        simp
      · right
        simp at h2 ⊢
        exact ⟨by omega, by omega, h3⟩
theorem inOrder_lt (k : List Int) : ∀ d i, (inOrder k i d).Pairwise (· < ·)
  | 0, i => .nil
  | d + 1, i => by
    simp only [inOrder]
    refine List.pairwise_append.2 ⟨by split <;> simp, inOrder_lt k d (i + 1), fun x hx y hy => ?_⟩
    have hy := (inOrder_mem.1 hy).1
    split at hx
    · simp at hx
      subst hx
      simp at hy
      omega
    · simp at hx

/-! ### Maps -/
section
variable {κ : Type} [DecidableEq κ]
theorem mhas_iff : ∀ {M : List (κ × Int)} {k : κ}, mhas M k = true ↔ k ∈ M.map (·.1)
  | [], k => by simp [mhas]
  | p :: M, k => by
    simp only [mhas, List.map_cons, List.mem_cons]
    by_cases h : p.1 = k
    · simp [h]
    · rw [if_neg h, mhas_iff]
      exact ⟨.inr, fun e => e.resolve_left (Ne.symm h)⟩
theorem mget_mem : ∀ {M : List (κ × Int)} {k : κ}, mhas M k = true → (k, mget M k) ∈ M
  | [], k, h => by simp [mhas] at h
  | p :: M, k, h => by
    by_cases e : p.1 = k
    · simp only [mget, if_pos e]
      rw [← e]
      exact List.mem_cons_self
    · simp only [mhas, if_neg e] at h
      simp only [mget, if_neg e]
      exact List.mem_cons_of_mem _ (mget_mem h)
theorem mget_no : ∀ {M : List (κ × Int)} {k : κ}, mhas M k = false → mget M k = 0
  | [], k, h => rfl
  | p :: M, k, h => by
    by_cases e : p.1 = k
    · simp [mhas, e] at h
    · simp only [mhas, if_neg e] at h
      simp only [mget, if_neg e]
      exact mget_no h
theorem mset_mem : ∀ {M : List (κ × Int)} {k : κ} {v : Int} {p : κ × Int}, p ∈ mset M k v → p = (k, v) ∨ p ∈ M
  | [], k, v, p, h => by simp [mset] at h; exact .inl h
  | q :: M, k, v, p, h => by
    simp only [mset] at h
    split at h
    · rcases List.mem_cons.1 h with h | h
      · exact .inl h
      · exact .inr (List.mem_cons_of_mem _ h)
    · rcases List.mem_cons.1 h with h | h
      · exact .inr (h ▸ List.mem_cons_self)
      · rcases mset_mem h with h | h
        · exact .inl h
        · exact .inr (List.mem_cons_of_mem _ h)
theorem mset_keys : ∀ {M : List (κ × Int)} {k : κ} {v : Int}, (mset M k v).map (·.1) = if mhas M k = true then M.map (·.1) else M.map (·.1) ++ [k]
  | [], k, v => by simp [mset, mhas]
  | q :: M, k, v => by
    by_cases e : q.1 = k
    · simp [mset, mhas, e]
    · simp only [mset, mhas, if_neg e, List.map_cons]
      rw [mset_keys]
      cases mhas M k <;> simp
theorem mset_nodup {M : List (κ × Int)} {k : κ} {v : Int} (h : (M.map (·.1)).Nodup) : ((mset M k v).map (·.1)).Nodup := by
  rw [mset_keys]
  cases e : mhas M k with
  | true => simpa using h
  | false =>
    have : ¬ k ∈ M.map (·.1) := fun hk => by rw [mhas_iff.2 hk] at e; cases e
    simp only [Bool.false_eq_true, if_false]
    rw [List.nodup_append]
    refine ⟨h, by simp, fun a ha b hb => ?_⟩
    simp only [List.mem_singleton] at hb
    subst hb
    exact fun e => this (e ▸ ha)
theorem mget_set : ∀ {M : List (κ × Int)} {k k' : κ} {v : Int}, mget (mset M k v) k' = if k = k' then v else mget M k'
  | [], k, k', v => by simp [mset, mget]
  | q :: M, k, k', v => by
    by_cases e : q.1 = k
    · simp only [mset, if_pos e, mget, e]
      by_cases e2 : k = k'
      · simp [mget, e2]
      · simp [mget, e2]
    · simp only [mset, if_neg e, mget]
      by_cases e2 : q.1 = k'
      · rw [if_pos e2, if_neg (fun e3 => e (e2.trans e3.symm)), if_pos e2]
      · rw [if_neg e2, if_neg e2, mget_set]
theorem mhas_set {M : List (κ × Int)} {k k' : κ} {v : Int} : mhas (mset M k v) k' = true ↔ k' = k ∨ mhas M k' = true := by
  rw [mhas_iff, mhas_iff, mset_keys]
  cases e : mhas M k with
  | true =>
    simp only [if_true]
    exact ⟨.inr, fun h => h.elim (fun q => q ▸ mhas_iff.1 e) id⟩
  | false => simp [or_comm]
end

/-! ### The best of some numbers -/
def stepB (b : Bool) (s : Bool × Int) (n : Int) : Bool × Int := if s.1 = true ∨ cond b (decide (n > s.2)) (decide (n < s.2)) = true then (false, n) else s
def pick (b : Bool) (vs : List Int) : Int := (vs.foldl (stepB b) (true, 0)).2
def leB (b : Bool) (x y : Int) : Prop := cond b (x ≤ y) (y ≤ x)
theorem leB.refl (b : Bool) (x : Int) : leB b x x := by cases b <;> exact Int.le_refl x
theorem leB.trans {b : Bool} {x y z : Int} (h : leB b x y) (h' : leB b y z) : leB b x z := by
  cases b
  · exact Int.le_trans h' h
  · exact Int.le_trans h h'
theorem leB.anti {b : Bool} {x y : Int} (h : leB b x y) (h' : leB b y x) : x = y := by
  cases b
  · exact Int.le_antisymm h' h
  · exact Int.le_antisymm h h'
theorem leB.add {b : Bool} {x y : Int} (h : leB b x y) (a : Int) : leB b (a + x) (a + y) := by
  cases b
  · exact Int.add_le_add_left h a
  · exact Int.add_le_add_left h a
theorem stepB_fold (b : Bool) : ∀ (vs : List Int) (m : Int), (vs.foldl (stepB b) (false, m)).1 = false ∧ ((vs.foldl (stepB b) (false, m)).2 = m ∨ (vs.foldl (stepB b) (false, m)).2 ∈ vs) ∧ leB b m (vs.foldl (stepB b) (false, m)).2 ∧ ∀ v, v ∈ vs → leB b v (vs.foldl (stepB b) (false, m)).2
  | [], m => ⟨rfl, .inl rfl, leB.refl b m, fun v h => by simp at h⟩
  | x :: vs, m => by
    simp only [List.foldl_cons]
    by_cases h : cond b (decide (x > m)) (decide (x < m)) = true
    · have e : stepB b (false, m) x = (false, x) := by
        unfold stepB
        rw [if_pos (.inr h)]
      rw [e]
      obtain ⟨h1, h2, h3, h4⟩ := stepB_fold b vs x
      have hm : leB b m x := by
        cases b
        · exact Int.le_of_lt (by simpa using h)
        · exact Int.le_of_lt (by simpa using h)
      refine ⟨h1, ?_, hm.trans h3, fun v hv => ?_⟩
      · rcases h2 with h2 | h2
        · exact .inr (by rw [h2]; exact List.mem_cons_self)
        · exact .inr (List.mem_cons_of_mem _ h2)
      · rcases List.mem_cons.1 hv with rfl | hv
        · exact h3
        · exact h4 v hv
    · have e : stepB b (false, m) x = (false, m) := by
        unfold stepB
        rw [if_neg (by simpa using h)]
      rw [e]
      obtain ⟨h1, h2, h3, h4⟩ := stepB_fold b vs m
      have hm : leB b x m := by
        cases b
        · simpa [leB] using h
        · simpa [leB] using h
      refine ⟨h1, h2.imp_right (List.mem_cons_of_mem _), h3, fun v hv => ?_⟩
      rcases List.mem_cons.1 hv with rfl | hv
      · exact hm.trans h3
      · exact h4 v hv
theorem stepB_first (b : Bool) (m x : Int) : stepB b (true, m) x = (false, x) := by
  unfold stepB
  rw [if_pos (.inl rfl)]
theorem pick_spec (b : Bool) {vs : List Int} (h : vs ≠ []) : pick b vs ∈ vs ∧ ∀ v, v ∈ vs → leB b v (pick b vs) := by
  cases vs with
  | nil => exact (h rfl).elim
  | cons x vs =>
    unfold pick
    rw [List.foldl_cons, stepB_first]
    obtain ⟨h1, h2, h3, h4⟩ := stepB_fold b vs x
    refine ⟨?_, fun v hv => ?_⟩
    · rcases h2 with h2 | h2
      · rw [h2]; exact List.mem_cons_self
      · exact List.mem_cons_of_mem _ h2
    · rcases List.mem_cons.1 hv with rfl | hv
      · exact h3
      · exact h4 v hv
theorem pick_eq (b : Bool) {vs : List Int} {r : Int} (h : r ∈ vs) (hr : ∀ v, v ∈ vs → leB b v r) : pick b vs = r := by
  obtain ⟨h1, h2⟩ := pick_spec b (vs := vs) (fun e => by rw [e] at h; simp at h)
  exact (hr _ h1).anti (h2 _ h)
theorem pick_nil (b : Bool) : pick b [] = 0 := rfl

/-! ### Purses -/
def total : List Int → Int
  | [] => 0
  | x :: l => x + total l
def lessP (l : List Int) (k : Nat) : List Int := l.set k (l.getD k 0 - 1)
theorem total_set : ∀ {l : List Int} {k : Nat} {v : Int}, k < l.length → total (l.set k v) = total l - l.getD k 0 + v
  | [], k, v, h => by simp at h
  | x :: l, 0, v, h => by simp [total]; omega
  | x :: l, k + 1, v, h => by
    have := total_set (l := l) (k := k) (v := v) (by simpa using h)
    simp only [List.set_cons_succ, total, List.getD_cons_succ]
    omega
theorem total_less {l : List Int} {k : Nat} (h : k < l.length) : total (lessP l k) = total l - 1 := by
  unfold lessP
  rw [total_set h]
  omega
theorem total_nn : ∀ {l : List Int}, (∀ x, x ∈ l → 0 ≤ x) → 0 ≤ total l
  | [], _ => Int.le_refl _
  | x :: l, h => by
    have := h x (by simp)
    have := total_nn (l := l) (fun y hy => h y (by simp [hy]))
    simp only [total]
    omega
theorem getD_le : ∀ {l : List Int}, (∀ x, x ∈ l → 0 ≤ x) → ∀ k, 0 ≤ l.getD k 0 ∧ l.getD k 0 ≤ total l
  | [], _, k => by simp [total]
  | x :: l, h, 0 => by
    have := h x (by simp)
    have := total_nn (l := l) (fun y hy => h y (by simp [hy]))
    simp only [List.getD_cons_zero, total]
    omega
  | x :: l, h, k + 1 => by
    have := h x (by simp)
    have := getD_le (l := l) (fun y hy => h y (by simp [hy])) k
    simp only [List.getD_cons_succ, total]
    omega
theorem total_zero : ∀ {l : List Int}, (∀ x, x ∈ l → 0 ≤ x) → total l = 0 → ∀ k, l.getD k 0 = 0 := fun h h0 k => by
  have := getD_le h k
  omega
/-- A purse of a wheel. -/
structure OkP (w : Wheel) (l : List Int) : Prop where
  len : l.length = w.Coins.length
  nn : ∀ x, x ∈ l → 0 ≤ x
  tot : total l ≤ 1000
theorem OkP.less {w : Wheel} {l : List Int} (h : OkP w l) {k : Nat} (hk : k < w.Coins.length) (h0 : l.getD k 0 ≠ 0) : OkP w (lessP l k) := by
  have hk' : k < l.length := by rw [h.len]; exact hk
  have := getD_le h.nn k
  refine ⟨by simp [lessP, h.len], fun x hx => ?_, by rw [total_less hk']; have := h.tot; omega⟩
  rcases List.mem_or_eq_of_mem_set hx with hx | rfl
  · exact h.nn x hx
  · omega
def bag4 (l : List Int) : List Int := [l.getD 0 0, l.getD 1 0, l.getD 2 0, l.getD 3 0]
def bagOf (l : List Int) : Bag_ := ⟨l.getD 0 0, l.getD 1 0, l.getD 2 0, l.getD 3 0⟩
theorem idx_bag {l : List Int} {k : Nat} (h : k < 4) : idx (bag4 l) (k : Int) = some (l.getD k 0) := by
  match k, h with
  | 0, _ => rfl
  | 1, _ => rfl
  | 2, _ => rfl
  | 3, _ => rfl
theorem set_bag {l : List Int} {k : Nat} {v : Int} (h : k < l.length) (h4 : l.length ≤ 4) : setI (bag4 l) (k : Int) v = some (bag4 (l.set k v)) := by
  unfold setI
  rw [if_pos ⟨by omega, by simp [bag4]; omega⟩, Int.toNat_natCast]
  match l, k, h, h4 with
  | [a], 0, _, _ => rfl
  | [a, b], 0, _, _ => rfl
  | [a, b], 1, _, _ => rfl
  | [a, b, c], 0, _, _ => rfl
  | [a, b, c], 1, _, _ => rfl
  | [a, b, c], 2, _, _ => rfl
  | [a, b, c, d], 0, _, _ => rfl
  | [a, b, c, d], 1, _, _ => rfl
  | [a, b, c, d], 2, _, _ => rfl
  | [a, b, c, d], 3, _, _ => rfl
theorem bag_inj {l l' : List Int} (h : bagOf l = bagOf l') (hl : l.length = l'.length) (h4 : l.length ≤ 4) : l = l' := by
  simp only [bagOf, Bag_.mk.injEq] at h
  obtain ⟨h0, h1, h2, h3⟩ := h
  apply List.ext_getElem hl
  intro i hi hi'
  have e1 : l[i] = l.getD i 0 := by simp [hi]
  have e2 : l'[i] = l'.getD i 0 := by simp [hi']
  rw [e1, e2]
  match i, (show i < 4 by omega) with
  | 0, _ => exact h0
  | 1, _ => exact h1
  | 2, _ => exact h2
  | 3, _ => exact h3

/-! ### What can come next -/
structure Opn where
  acts : List Int
  plays : Int
  p : Int
  c : Int
  k : Nat
/-- A coin. -/
def optC (w : Wheel) (p c : Int) (k : Nat) : Opn := ⟨[(k : Int)], (turn w p (coin w k)).2, (turn w p (coin w k)).1, c + (turn w p (coin w k)).2, k⟩
/-- A selection, and a coin. -/
def optS (w : Wheel) (c : Int) (k : Nat) : Opn := ⟨[-1, (k : Int)], (turn w 0 (coin w k)).2, (turn w 0 (coin w k)).1, c - 1 + (turn w 0 (coin w k)).2, k⟩
def optK (w : Wheel) (p c : Int) (k : Nat) : List Opn := optC w p c k :: (if c = 0 ∨ p = 0 then [] else [optS w c k])
def opts (w : Wheel) (p c : Int) (l : List Int) : Nat → Nat → List Opn
  | 0, _ => []
  | d + 1, k => (if l.getD k 0 = 0 then [] else optK w p c k) ++ opts w p c l d (k + 1)
theorem opts_mem {w : Wheel} {p c : Int} {l : List Int} {o : Opn} : ∀ {d k : Nat}, o ∈ opts w p c l d k ↔ ∃ j, k ≤ j ∧ j < k + d ∧ l.getD j 0 ≠ 0 ∧ o ∈ optK w p c j
  | 0, k => by
    simp only [opts, List.not_mem_nil, false_iff]
    rintro ⟨j, h1, h2, _⟩
    omega
  | d + 1, k => by
    simp only [opts, List.mem_append]
    rw [opts_mem]
    constructor
    · rintro (h | ⟨j, h1, h2, h3, h4⟩)
      · split at h
        · simp at h
        · rename_i h0
          exact ⟨k, Nat.le_refl k, by omega, h0, h⟩
      · exact ⟨j, by omega, by omega, h3, h4⟩
    · rintro ⟨j, h1, h2, h3, h4⟩
      by_cases e : j = k
      · subst e
        exact .inl (by rw [if_neg h3]; exact h4)
      · exact .inr ⟨j, by omega, by omega, h3, h4⟩
theorem optK_mem {w : Wheel} {p c : Int} {k : Nat} {o : Opn} : o ∈ optK w p c k ↔ o = optC w p c k ∨ (c ≠ 0 ∧ p ≠ 0 ∧ o = optS w c k) := by
  unfold optK
  rw [List.mem_cons]
  by_cases h : c = 0 ∨ p = 0
  · rw [if_pos h]
    simp only [List.not_mem_nil, or_false]
    exact ⟨.inl, fun q => q.elim id fun q => (h.elim q.1 q.2.1).elim⟩
  · rw [if_neg h]
    simp only [List.mem_singleton]
    exact or_congr_right ⟨fun q => ⟨fun e => h (.inl e), fun e => h (.inr e), q⟩, fun q => q.2.2⟩
/-- The plays of the best way to put a purse of so many coins in. -/
def Q (b : Bool) (w : Wheel) : Nat → Int → Int → List Int → Int
  | 0, _, _, _ => 0
  | T + 1, p, c, l => pick b ((opts w p c l l.length 0).map fun o => o.plays + Q b w T o.p o.c (lessP l o.k))
/-- What is known of what comes next. -/
structure OkO (w : Wheel) (c : Int) (l : List Int) (o : Opn) : Prop where
  k : o.k < w.Coins.length
  nz : l.getD o.k 0 ≠ 0
  p0 : 0 ≤ o.p
  p1 : o.p < w.Round
  c0 : 0 ≤ o.c
  c1 : o.c ≤ c + 100
  y0 : 0 ≤ o.plays
  y1 : o.plays ≤ 100
theorem opts_ok {w : Wheel} (h : OkW w) {p c : Int} (hp : 0 ≤ p) (hp' : p < w.Round) (hc : 0 ≤ c) {l : List Int} (hl : OkP w l) {o : Opn} (ho : o ∈ opts w p c l l.length 0) : OkO w c l o := by
  have hr := h.r1
  obtain ⟨j, _, h2, h3, h4⟩ := opts_mem.1 ho
  have hj : j < w.Coins.length := by have := hl.len; omega
  have hco := coin_range h (a := (j : Int)) (by omega) (by omega)
  rcases optK_mem.1 h4 with rfl | ⟨h5, h6, rfl⟩
  · have ht := turn_range h hp hp' (show 0 ≤ coin w j by omega)
    exact ⟨hj, h3, ht.1.1, ht.1.2, by show 0 ≤ c + _; omega, by show c + _ ≤ _; omega, ht.2.1, by show (turn w p (coin w j)).2 ≤ 100; omega⟩
  · have ht := turn_range h (p := 0) (by omega) (by omega) (show 0 ≤ coin w j by omega)
    exact ⟨hj, h3, ht.1.1, ht.1.2, by show 0 ≤ c - 1 + _; omega, by show c - 1 + _ ≤ _; omega, ht.2.1, by show (turn w 0 (coin w j)).2 ≤ 100; omega⟩
theorem exists_nz : ∀ {l : List Int}, total l ≠ 0 → ∃ j, j < l.length ∧ l.getD j 0 ≠ 0
  | [], h => (h rfl).elim
  | x :: l, h => by
    by_cases e : x = 0
    · obtain ⟨j, h1, h2⟩ := exists_nz (l := l) (fun q => h (by simp [total, q, e]))
      exact ⟨j + 1, by simp; omega, by simpa using h2⟩
    · exact ⟨0, by simp, by simpa using e⟩
theorem opts_ne {w : Wheel} {p c : Int} {l : List Int} (h : total l ≠ 0) : ∃ j, j < l.length ∧ l.getD j 0 ≠ 0 ∧ optC w p c j ∈ opts w p c l l.length 0 := by
  obtain ⟨j, h1, h2⟩ := exists_nz h
  exact ⟨j, h1, h2, opts_mem.2 ⟨j, by omega, by omega, h2, optK_mem.2 (.inl rfl)⟩⟩
theorem Q_range (b : Bool) {w : Wheel} (h : OkW w) : ∀ (T : Nat) {p c : Int} {l : List Int}, 0 ≤ p → p < w.Round → 0 ≤ c → OkP w l → 0 ≤ Q b w T p c l ∧ Q b w T p c l ≤ 100 * T
  | 0, p, c, l, _, _, _, _ => by simp [Q]
  | T + 1, p, c, l, hp, hp', hc, hl => by
    simp only [Q]
    by_cases e : ((opts w p c l l.length 0).map fun o => o.plays + Q b w T o.p o.c (lessP l o.k)) = []
    · rw [e]
      exact ⟨by simp [pick_nil], by simp [pick_nil]; omega⟩
    · obtain ⟨h1, _⟩ := pick_spec b e
      obtain ⟨o, ho, he⟩ := List.mem_map.1 h1
      have ok := opts_ok h hp hp' hc hl ho
      have := Q_range b h T ok.p0 ok.p1 ok.c0 (hl.less ok.k ok.nz)
      have := ok.y0
      have := ok.y1
      rw [← he]
      omega
theorem Q_clamp (b : Bool) {w : Wheel} (h : OkW w) : ∀ (T : Nat) {p c c' : Int} {l : List Int}, 0 ≤ p → p < w.Round → (T : Int) ≤ c → (T : Int) ≤ c' → OkP w l → (∀ j, w.Coins.length ≤ j → l.getD j 0 = 0) → Q b w T p c l = Q b w T p c' l
  | 0, p, c, c', l, _, _, _, _, _, _ => rfl
  | T + 1, p, c, c', l, hp, hp', hc, hc', hl, hz => by
    simp only [Q]
    congr 1
    have key : ∀ o o' : Opn, o.plays = o'.plays → o.p = o'.p → o.k = o'.k → (0 ≤ o.p ∧ o.p < w.Round) → (T : Int) ≤ o.c → (T : Int) ≤ o'.c → o.k < w.Coins.length → l.getD o.k 0 ≠ 0 → o.plays + Q b w T o.p o.c (lessP l o.k) = o'.plays + Q b w T o'.p o'.c (lessP l o'.k) := by
      intro o o' e1 e2 e3 hq h1 h2 h3 h4
      have hl' := hl.less h3 h4
      rw [← e1, ← e2, ← e3, Q_clamp b h T hq.1 hq.2 h1 h2 hl' (fun j hj => by
        unfold lessP
        rw [List.getD_eq_getElem?_getD, List.getElem?_set_ne (by omega), ← List.getD_eq_getElem?_getD]
        exact hz j hj)]
    have main : ∀ d k, (opts w p c l d k).map (fun o => o.plays + Q b w T o.p o.c (lessP l o.k)) = (opts w p c' l d k).map (fun o => o.plays + Q b w T o.p o.c (lessP l o.k)) := by
      intro d
      induction d with
      | zero => intro k; rfl
      | succ d ih =>
        intro k
        simp only [opts, List.map_append]
        rw [ih (k + 1)]
        congr 1
        split
        · rfl
        · rename_i h0
          have hk : k < w.Coins.length := by
            rcases Nat.lt_or_ge k w.Coins.length with q | q
            · exact q
            · exact (h0 (hz k q)).elim
          have hco := coin_range h (a := (k : Int)) (by omega) (by omega)
          have hr := h.r1
          have ht := turn_range h hp hp' (show 0 ≤ coin w k by omega)
          have ht0 := turn_range h (p := 0) (by omega) (by omega) (show 0 ≤ coin w k by omega)
          have k1 := key (optC w p c k) (optC w p c' k) rfl rfl rfl ht.1 (by show (T : Int) ≤ c + _; omega) (by show (T : Int) ≤ c' + _; omega) hk h0
          have k2 := key (optS w c k) (optS w c' k) rfl rfl rfl ht0.1 (by show (T : Int) ≤ c - 1 + _; omega) (by show (T : Int) ≤ c' - 1 + _; omega) hk h0
          unfold optK
          by_cases e : p = 0
          · rw [if_pos (.inr e), if_pos (.inr e)]
            simp [k1]
          · rw [if_neg (by omega), if_neg (by omega)]
            simp [k1, k2]
    exact main _ _
theorem OkP.out {w : Wheel} {l : List Int} (h : OkP w l) : ∀ j, w.Coins.length ≤ j → l.getD j 0 = 0 := fun j hj => by
  rw [← h.len] at hj
  simp [hj]
theorem Q_min (b : Bool) {w : Wheel} (h : OkW w) {T : Nat} {p c : Int} {l : List Int} (hp : 0 ≤ p) (hp' : p < w.Round) (hl : OkP w l) : Q b w T p (min c T) l = Q b w T p c l := by
  by_cases e : c ≤ T
  · rw [Int.min_eq_left e]
  · rw [Int.min_eq_right (by omega)]
    exact Q_clamp b h T hp hp' (by omega) (by omega) hl hl.out

/-! ### The code: next -/
def runY {S : Type} (F : Opn → S → Option (Bool × S)) : List Opn → S → Option S
  | [], s => some s
  | o :: l, s => (F o s).bind fun r => if r.1 = true then runY F l r.2 else some r.2
def spot (l : List Int) (p c : Int) : Spot_ := ⟨bagOf l, p, c⟩
theorem after_j {n : Nat} {w : Wheel} (h : OkW w) (hn : 200 ≤ n) {p c : Int} (hp : 0 ≤ p) (hp' : p < w.Round) (hc : -1 ≤ c) (hc2 : c < 1099511627776) {l : List Int} (hl : OkP w l) {k : Nat} (hk : k < w.Coins.length) :
    coins_wheel_after_j1 n ⟨w⟩ k (l.getD 0 0) (l.getD 1 0) (l.getD 2 0) (l.getD 3 0) p c = some (spot (lessP l k) (turn w p (coin w k)).1 (c + (turn w p (coin w k)).2), (turn w p (coin w k)).2) := by
  have hco := coin_range h (a := (k : Int)) (by omega) (by omega)
  have ht := turn_range h hp hp' (show 0 ≤ coin w k by omega)
  have h4 := h.clen
  have hg := getD_le hl.nn k
  have htot := hl.tot
  unfold coins_wheel_after_j1
  show Option.bind (idx w.Coins (k : Int)) _ = _
  rw [coin_idx (by omega) (by omega), bnd_some, turn_eq h (by omega) hp hp' (by omega) (by omega), bnd_some]
  rw [show ([l.getD 0 0, l.getD 1 0, l.getD 2 0, l.getD 3 0] : List Int) = bag4 l from rfl, idx_bag (by omega), bnd_some, bnd_some, w64_id (by omega) (by omega), set_bag (by rw [hl.len]; exact hk) (by rw [hl.len]; exact h4), bnd_some, w64_id (by omega) (by omega)]
  rfl
theorem after_c {n : Nat} {w : Wheel} (h : OkW w) (hn : 200 ≤ n) {p c : Int} (hp : 0 ≤ p) (hp' : p < w.Round) (hc : 0 ≤ c) (hc2 : c < 1099511627776) {l : List Int} (hl : OkP w l) {k : Nat} (hk : k < w.Coins.length) :
    coins_wheel_after n ⟨w⟩ (spot l p c) k false = some (spot (lessP l k) (optC w p c k).p (optC w p c k).c, (optC w p c k).plays) := by
  unfold coins_wheel_after
  rw [if_neg (by simp)]
  exact after_j h hn hp hp' (by omega) hc2 hl hk
theorem after_s {n : Nat} {w : Wheel} (h : OkW w) (hn : 200 ≤ n) {p c : Int} (hc : 0 ≤ c) (hc2 : c < 1099511627776) {l : List Int} (hl : OkP w l) {k : Nat} (hk : k < w.Coins.length) :
    coins_wheel_after n ⟨w⟩ (spot l p c) k true = some (spot (lessP l k) (optS w c k).p (optS w c k).c, (optS w c k).plays) := by
  have hr := h.r1
  unfold coins_wheel_after
  rw [if_pos rfl]
  show coins_wheel_after_j1 n ⟨w⟩ k _ _ _ _ 0 (w64 (c - 1)) = _
  rw [w64_id (by omega) (by omega)]
  exact after_j h hn (by omega) (by omega) (by omega) (by omega) hl hk
theorem next_eq {S : Type} {n : Nat} {w : Wheel} (h : OkW w) (hn : 200 ≤ n) {p c : Int} (hp : 0 ≤ p) (hp' : p < w.Round) (hc : 0 ≤ c) (hc2 : c < 1099511627776) {l : List Int} (hl : OkP w l) (b : Bool) (aF : List Int → Spot_ → Int → S → Option (Bool × S)) (st : S) :
    coins_search_next n aF (⟨w⟩, b) (spot l p c) st = (runY (fun o s => aF o.acts (spot (lessP l o.k) o.p o.c) o.plays s) (opts w p c l l.length 0) st).map fun s => ((), s) := by
  have h4 := h.clen
  have key := loopR (F := fun m i s => coins_search_next_l1 n (⟨w⟩, b) (spot l p c) aF m (l.getD 0 0) (l.getD 1 0) (l.getD 2 0) (l.getD 3 0) i s) (b := w.Coins.length)
    (spec := fun i s => (runY (fun o s => aF o.acts (spot (lessP l o.k) o.p o.c) o.plays s) (opts w p c l (w.Coins.length - i) i) s).map fun s => ((), s)) (by omega)
    (fun m s => by simp [coins_search_next_l1, coins_search_next_l1_b, opts, runY])
    (fun m i s hi hrec => by
      obtain ⟨d, hd⟩ : ∃ d, w.Coins.length - i = d + 1 := ⟨w.Coins.length - i - 1, by omega⟩
      have hd' : w.Coins.length - (i + 1) = d := by omega
      simp only [hd'] at hrec
      simp only [coins_search_next_l1, coins_search_next_l1_b, hd, opts]
      rw [if_pos (by simp; omega), show ([l.getD 0 0, l.getD 1 0, l.getD 2 0, l.getD 3 0] : List Int) = bag4 l from rfl, idx_bag (by omega), bnd_some]
      by_cases e : l.getD i 0 = 0
      · rw [if_pos (by simpa using e), if_pos e]
        simp only [coins_search_next_j1, List.nil_append]
        exact hrec s
      · rw [if_neg (by simpa using e), if_neg e]
        rw [show (⟨⟨l.getD 0 0, l.getD 1 0, l.getD 2 0, l.getD 3 0⟩, (spot l p c).place, (spot l p c).credit⟩ : Spot_) = spot l p c from rfl, after_c h hn hp hp' hc hc2 hl hi, bnd_some]
        unfold optK
        simp only [List.cons_append, runY]
        show Option.bind (aF (optC w p c i).acts _ _ s) _ = _
        rw [show (optC w p c i).k = i from rfl]
        cases hF : aF (optC w p c i).acts (spot (lessP l i) (optC w p c i).p (optC w p c i).c) (optC w p c i).plays s with
        | none => rfl
        | some r =>
          simp only [bnd_some]
          cases hr : r.1 with
          | false => simp
          | true =>
            simp only [Bool.not_true, Bool.false_eq_true, if_false, if_true]
            have skip : coins_search_next_j2 n (coins_search_next_l1 n (⟨w⟩, b) (spot l p c) aF m) (⟨w⟩, b) (spot l p c) aF (l.getD 0 0) (l.getD 1 0) (l.getD 2 0) (l.getD 3 0) (i : Int) r true = (runY (fun o s => aF o.acts (spot (lessP l o.k) o.p o.c) o.plays s) (opts w p c l d (i + 1)) r.2).map fun s => ((), s) := by
              unfold coins_search_next_j2 coins_search_next_j1
              rw [if_pos rfl]
              exact hrec r.2
            have go : c ≠ 0 → coins_search_next_j2 n (coins_search_next_l1 n (⟨w⟩, b) (spot l p c) aF m) (⟨w⟩, b) (spot l p c) aF (l.getD 0 0) (l.getD 1 0) (l.getD 2 0) (l.getD 3 0) (i : Int) r false = (runY (fun o s => aF o.acts (spot (lessP l o.k) o.p o.c) o.plays s) (optS w c i :: opts w p c l d (i + 1)) r.2).map fun s => ((), s) := by
              intro hc0
              unfold coins_search_next_j2 coins_search_next_j1
              rw [if_neg (by simp)]
              rw [show (⟨⟨l.getD 0 0, l.getD 1 0, l.getD 2 0, l.getD 3 0⟩, (spot l p c).place, (spot l p c).credit⟩ : Spot_) = spot l p c from rfl, after_s h hn hc hc2 hl hi, bnd_some]
              simp only [runY]
              show Option.bind (aF (optS w c i).acts _ _ r.2) _ = _
              rw [show (optS w c i).k = i from rfl]
              cases hF2 : aF (optS w c i).acts (spot (lessP l i) (optS w c i).p (optS w c i).c) (optS w c i).plays r.2 with
              | none => rfl
              | some r2 =>
                simp only [bnd_some]
                cases hr2 : r2.1 with
                | false => simp
                | true =>
                  simp only [Bool.not_true, Bool.false_eq_true, if_false, if_true]
                  exact hrec r2.2
            show (if (c == 0) = true then _ else coins_search_next_j2 n _ _ _ aF _ _ _ _ _ r (p == 0)) = _
            by_cases e1 : c = 0
            · rw [if_pos (by simpa using e1), if_pos (.inl e1)]
              exact skip
            · rw [if_neg (by simpa using e1)]
              by_cases e2 : p = 0
              · rw [if_pos (.inr e2), show (p == 0) = true by simpa using e2]
                exact skip
              · rw [if_neg (by simp [e1, e2]), show (p == 0) = false by simpa using e2]
                exact go e1)
    w.Coins.length 0 n st (by omega) (by omega) (by omega)
  rw [Nat.sub_zero, ← hl.len] at key
  exact key

/-! ### The code: buys -/
/-- What is kept is right. -/
def InvM (b : Bool) (w : Wheel) (M : List (Spot_ × Int)) : Prop :=
  (M.map (·.1)).Nodup ∧ ∀ e, e ∈ M → ∃ l p c, e.1 = spot l p c ∧ OkP w l ∧ (0 ≤ p ∧ p < w.Round) ∧ (0 ≤ c ∧ c < 1099511627776) ∧ e.2 = Q b w (total l).toNat p c l
theorem InvM.nil (b : Bool) (w : Wheel) : InvM b w [] := ⟨by simp, fun e h => by simp at h⟩
theorem okI_of {x : Int} (h1 : -9223372036854775808 ≤ x) (h2 : x < 9223372036854775808) : okI x = true := by
  simp only [okI, Lit.wf, IntKind.min, IntKind.max, IntKind.signed, IntKind.bits]
  simp
  omega
theorem okSpot_of {w : Wheel} (h : OkW w) {l : List Int} (hl : OkP w l) {p c : Int} (hp : 0 ≤ p) (hp' : p < w.Round) (hc : 0 ≤ c) (hc2 : c < 1099511627776) : okSpot_ (spot l p c) = true := by
  have hr := h.r2
  have ht := hl.tot
  have g := getD_le hl.nn
  have g0 := g 0
  have g1 := g 1
  have g2 := g 2
  have g3 := g 3
  simp only [okSpot_, spot, bagOf, List.all_cons, List.all_nil, Bool.and_true, Bool.and_eq_true]
  exact ⟨okI_of (by omega) (by omega), okI_of (by omega) (by omega), okI_of (by omega) (by omega), okI_of (by omega) (by omega), okI_of (by omega) (by omega), okI_of (by omega) (by omega)⟩
theorem InvM.mok {b : Bool} {w : Wheel} {M : List (Spot_ × Int)} (hM : InvM b w M) (h : OkW w) {l : List Int} (hl : OkP w l) {p c : Int} (hp : 0 ≤ p) (hp' : p < w.Round) (hc : 0 ≤ c) (hc2 : c < 1099511627776) : mok okSpot_ M (spot l p c) = true := by
  unfold Go.AM.mok
  rw [okSpot_of h hl hp hp' hc hc2, show M.all (fun p => okSpot_ p.1) = true from List.all_eq_true.2 fun e he => ?_, show decide ((M.map (·.1)).Nodup) = true by simpa using hM.1]
  · rfl
  · obtain ⟨l', p', c', e1, e2, e3, e4, _⟩ := hM.2 e he
    rw [e1]
    exact okSpot_of h e2 e3.1 e3.2 e4.1 e4.2
theorem InvM.get {b : Bool} {w : Wheel} {M : List (Spot_ × Int)} (hM : InvM b w M) (h : OkW w) {l : List Int} (hl : OkP w l) {p c : Int} (hk : mhas M (spot l p c) = true) : mget M (spot l p c) = Q b w (total l).toNat p c l := by
  obtain ⟨l', p', c', e1, e2, e3, e4, e5⟩ := hM.2 _ (mget_mem hk)
  simp only [spot, Spot_.mk.injEq] at e1
  obtain ⟨q1, q2, q3⟩ := e1
  have e : l = l' := bag_inj q1 (by rw [hl.len, e2.len]) (by rw [hl.len]; exact h.clen)
  subst e q2 q3
  exact e5
theorem InvM.set {b : Bool} {w : Wheel} {M : List (Spot_ × Int)} (hM : InvM b w M) {l : List Int} (hl : OkP w l) {p c : Int} (hp : 0 ≤ p) (hp' : p < w.Round) (hc : 0 ≤ c) (hc2 : c < 1099511627776) : InvM b w (mset M (spot l p c) (Q b w (total l).toNat p c l)) := by
  refine ⟨mset_nodup hM.1, fun e he => ?_⟩
  rcases mset_mem he with rfl | he
  · exact ⟨l, p, c, rfl, hl, ⟨hp, hp'⟩, ⟨hc, hc2⟩, rfl⟩
  · exact hM.2 e he
theorem better_eq (b : Bool) (x y : Int) : coins_better b x y = some (cond b (decide (x > y)) (decide (x < y))) := by cases b <;> rfl
theorem buys_fold {n : Nat} {b : Bool} {w : Wheel} {l : List Int} {T : Nat}
    (rec : ∀ o, OkO w 2000 l o → ∀ M, InvM b w M → ∃ M', coins_search_buys n (⟨w⟩, b) (spot (lessP l o.k) o.p o.c) M = some (Q b w T o.p o.c (lessP l o.k), M') ∧ InvM b w M')
    (hq : ∀ o, OkO w 2000 l o → 0 ≤ Q b w T o.p o.c (lessP l o.k) ∧ Q b w T o.p o.c (lessP l o.k) ≤ 1000000) :
    ∀ (os : List Opn), (∀ o, o ∈ os → OkO w 2000 l o) → ∀ (f : Bool) (m : Int) (M : List (Spot_ × Int)), InvM b w M →
      ∃ M', runY (fun o s => coins_search_buys_c1 (coins_search_buys n) o.acts (spot (lessP l o.k) o.p o.c) o.plays (⟨w⟩, b) s) os (f, m, M) =
        some ((((os.map fun o => o.plays + Q b w T o.p o.c (lessP l o.k)).foldl (stepB b) (f, m)).1), (((os.map fun o => o.plays + Q b w T o.p o.c (lessP l o.k)).foldl (stepB b) (f, m)).2), M') ∧ InvM b w M'
  | [], _, f, m, M, hM => ⟨M, rfl, hM⟩
  | o :: os, ho, f, m, M, hM => by
    have ok := ho o (by simp)
    obtain ⟨M1, h1, h2⟩ := rec o ok M hM
    have hr := hq o ok
    have y0 := ok.y0
    have y1 := ok.y1
    have step : coins_search_buys_c1 (coins_search_buys n) o.acts (spot (lessP l o.k) o.p o.c) o.plays (⟨w⟩, b) (f, m, M) = some (true, (stepB b (f, m) (o.plays + Q b w T o.p o.c (lessP l o.k))).1, (stepB b (f, m) (o.plays + Q b w T o.p o.c (lessP l o.k))).2, M1) := by
      unfold coins_search_buys_c1
      simp only []
      rw [h1, bnd_some]
      simp only [coins_search_buys_c1_j2, coins_search_buys_c1_j1]
      rw [w64_id (by omega) (by omega), better_eq, bnd_some]
      unfold stepB
      cases f with
      | true => simp
      | false =>
        simp only [Bool.false_eq_true, false_or, if_false]
        cases hb : cond b (decide (o.plays + Q b w T o.p o.c (lessP l o.k) > m)) (decide (o.plays + Q b w T o.p o.c (lessP l o.k) < m)) <;> simp
    obtain ⟨M2, h3, h4⟩ := buys_fold rec hq os (fun o' h' => ho o' (by simp [h'])) (stepB b (f, m) (o.plays + Q b w T o.p o.c (lessP l o.k))).1 (stepB b (f, m) (o.plays + Q b w T o.p o.c (lessP l o.k))).2 M1 h2
    refine ⟨M2, ?_, h4⟩
    simp only [runY, step, bnd_some, if_true, h3, List.map_cons, List.foldl_cons]
theorem total_bag {l : List Int} (h4 : l.length ≤ 4) : l.getD 0 0 + l.getD 1 0 + l.getD 2 0 + l.getD 3 0 = total l := by
  match l, h4 with
  | [], _ => rfl
  | [a], _ => simp [total]
  | [a, b], _ => simp [total]
  | [a, b, c], _ => simp [total]; omega
  | [a, b, c, d], _ => simp [total]; omega
theorem buys_sum {n : Nat} (rec : (Wheel_ × Bool) → Spot_ → (List (Spot_ × Int)) → Option (Int × (List (Spot_ × Int)))) (a0 : Wheel_ × Bool) {l : List Int} (h4 : l.length ≤ 4) (hnn : ∀ x, x ∈ l → 0 ≤ x) (ht : total l ≤ 1000) (p c : Int) (M : List (Spot_ × Int)) (hn : 10 ≤ n) :
    coins_search_buys_b n rec a0 (spot l p c) M = coins_search_buys_j1 n rec a0 (spot l p c) M (total l) (l.getD 0 0) (l.getD 1 0) (l.getD 2 0) (l.getD 3 0) := by
  have g := getD_le hnn
  have g0 := g 0
  have g1 := g 1
  have g2 := g 2
  have g3 := g 3
  have hb := total_bag h4
  obtain ⟨m, rfl⟩ : ∃ m, n = m + 5 := ⟨n - 5, by omega⟩
  unfold coins_search_buys_b
  simp only [coins_search_buys_l1, coins_search_buys_l1_b]
  have e1 : w64 (0 + 1) = 1 := rfl
  have e2 : w64 (1 + 1) = 2 := rfl
  have e3 : w64 (2 + 1) = 3 := rfl
  have e4 : w64 (3 + 1) = 4 := rfl
  have i0 : idx ([(spot l p c).left.c0, (spot l p c).left.c1, (spot l p c).left.c2, (spot l p c).left.c3] : List Int) 0 = some (l.getD 0 0) := rfl
  have i1 : idx ([(spot l p c).left.c0, (spot l p c).left.c1, (spot l p c).left.c2, (spot l p c).left.c3] : List Int) 1 = some (l.getD 1 0) := rfl
  have i2 : idx ([(spot l p c).left.c0, (spot l p c).left.c1, (spot l p c).left.c2, (spot l p c).left.c3] : List Int) 2 = some (l.getD 2 0) := rfl
  have i3 : idx ([(spot l p c).left.c0, (spot l p c).left.c1, (spot l p c).left.c2, (spot l p c).left.c3] : List Int) 3 = some (l.getD 3 0) := rfl
  rw [if_pos (by decide), i0, bnd_some, e1, w64_id (x := 0 + _) (by omega) (by omega)]
  rw [if_pos (by decide), i1, bnd_some, e2, w64_id (x := 0 + l.getD 0 0 + _) (by omega) (by omega)]
  rw [if_pos (by decide), i2, bnd_some, e3, w64_id (x := 0 + l.getD 0 0 + l.getD 1 0 + _) (by omega) (by omega)]
  rw [if_pos (by decide), i3, bnd_some, e4, w64_id (x := 0 + l.getD 0 0 + l.getD 1 0 + l.getD 2 0 + _) (by omega) (by omega)]
  rw [if_neg (by decide), show 0 + l.getD 0 0 + l.getD 1 0 + l.getD 2 0 + l.getD 3 0 = total l by omega]
  rfl
theorem buys_eq {b : Bool} {w : Wheel} (h : OkW w) : ∀ (T n : Nat) (p c : Int) (l : List Int) (M : List (Spot_ × Int)), (T : Int) = total l → T + 300 ≤ n → OkP w l → 0 ≤ p → p < w.Round → 0 ≤ c → c < 1099511627776 → InvM b w M →
    ∃ M', coins_search_buys n (⟨w⟩, b) (spot l p c) M = some (Q b w T p c l, M') ∧ InvM b w M' := by
  intro T
  induction T with
  | zero =>
    intro n p c l M hT hn hl hp hp' hc hc2 hM
    obtain ⟨n, rfl⟩ : ∃ m, n = m + 1 := ⟨n - 1, by omega⟩
    have h4 : l.length ≤ 4 := by rw [hl.len]; exact h.clen
    refine ⟨M, ?_, hM⟩
    show coins_search_buys_b n _ _ _ _ = _
    rw [buys_sum _ _ h4 hl.nn hl.tot p c M (by omega)]
    unfold coins_search_buys_j1
    have e0 : total l = 0 := by omega
    rw [show (⟨⟨l.getD 0 0, l.getD 1 0, l.getD 2 0, l.getD 3 0⟩, (spot l p c).place, min (spot l p c).credit (total l)⟩ : Spot_) = spot l p (min c (total l)) from rfl]
    unfold mlook
    rw [if_pos (hM.mok h hl hp hp' (by omega) (by omega)), bnd_some]
    have hv : mget M (spot l p (min c (total l))) = 0 := by
      cases hh : mhas M (spot l p (min c (total l))) with
      | true =>
        rw [hM.get h hl hh, e0]
        rfl
      | false => exact mget_no hh
    rw [hv, e0]
    unfold coins_search_buys_j2
    simp [Q]
  | succ T ih =>
    intro n p c l M hT hn hl hp hp' hc hc2 hM
    obtain ⟨n, rfl⟩ : ∃ m, n = m + 1 := ⟨n - 1, by omega⟩
    have h4 : l.length ≤ 4 := by rw [hl.len]; exact h.clen
    have htot := hl.tot
    have hc' : 0 ≤ min c (total l) ∧ min c (total l) ≤ total l := by omega
    have hT2 : (total l).toNat = T + 1 := by omega
    have hQ : Q b w (T + 1) p (min c (total l)) l = Q b w (T + 1) p c l := by
      rw [← hT]
      exact Q_min b h hp hp' hl
    show ∃ M', coins_search_buys_b n _ _ _ _ = _ ∧ _
    rw [buys_sum _ _ h4 hl.nn hl.tot p c M (by omega)]
    unfold coins_search_buys_j1 coins_search_buys_j2
    rw [show (⟨⟨l.getD 0 0, l.getD 1 0, l.getD 2 0, l.getD 3 0⟩, (spot l p c).place, min (spot l p c).credit (total l)⟩ : Spot_) = spot l p (min c (total l)) from rfl]
    unfold mlook
    rw [if_pos (hM.mok h hl hp hp' (by omega) (by omega)), bnd_some]
    cases hh : mhas M (spot l p (min c (total l))) with
    | true =>
      refine ⟨M, ?_, hM⟩
      rw [if_pos rfl, if_pos rfl, hM.get h hl hh, hT2, hQ]
    | false =>
      rw [if_neg (by simp), show (total l == 0) = false by simp; omega, if_neg (by simp)]
      rw [next_eq h (by omega) hp hp' hc'.1 (by omega) hl b]
      have hok : ∀ o, o ∈ opts w p (min c (total l)) l l.length 0 → OkO w 2000 l o := fun o ho => by
        have := opts_ok h hp hp' hc'.1 hl ho
        exact ⟨this.k, this.nz, this.p0, this.p1, this.c0, by have := this.c1; omega, this.y0, this.y1⟩
      obtain ⟨M1, h1, h2⟩ := buys_fold (n := n) (b := b) (w := w) (l := l) (T := T)
        (fun o ok M0 hM0 => ih n o.p o.c (lessP l o.k) M0 (by rw [total_less (by rw [hl.len]; exact ok.k)]; omega) (by omega) (hl.less ok.k ok.nz) ok.p0 ok.p1 ok.c0 (by have := ok.c1; omega) hM0)
        (fun o ok => by
          have := Q_range b h T ok.p0 ok.p1 ok.c0 (hl.less ok.k ok.nz)
          omega)
        _ hok true 0 M hM
      rw [h1, Option.map_some, bnd_some]
      simp only []
      unfold mstore
      rw [if_pos (h2.mok h hl hp hp' (by omega) (by omega)), bnd_some]
      have hset := h2.set hl hp hp' hc'.1 (show min c (total l) < 1099511627776 by omega)
      rw [hT2] at hset
      have hval' : (((opts w p (min c (total l)) l l.length 0).map fun o => o.plays + Q b w T o.p o.c (lessP l o.k)).foldl (stepB b) (true, 0)).2 = Q b w (T + 1) p (min c (total l)) l := rfl
      rw [hval']
      exact ⟨_, by rw [hQ], hQ ▸ hset⟩

/-! ### The reference: all -/
def optC0 (w : Wheel) (p c : Int) (l : List Int) : Nat → Nat → List Opn
  | 0, _ => []
  | d + 1, k => (if l.getD k 0 = 0 then [] else [optC w p c k]) ++ optC0 w p c l d (k + 1)
theorem optC0_mem {w : Wheel} {p c : Int} {l : List Int} {o : Opn} : ∀ {d k : Nat}, o ∈ optC0 w p c l d k ↔ ∃ j, k ≤ j ∧ j < k + d ∧ l.getD j 0 ≠ 0 ∧ o = optC w p c j
  | 0, k => by
    simp only [optC0, List.not_mem_nil, false_iff]
    rintro ⟨j, h1, h2, _⟩
    omega
  | d + 1, k => by
    simp only [optC0, List.mem_append]
    rw [optC0_mem]
    constructor
    · rintro (h | ⟨j, h1, h2, h3, h4⟩)
      · split at h
        · simp at h
        · rename_i h0
          exact ⟨k, Nat.le_refl k, by omega, h0, by simpa using h⟩
      · exact ⟨j, by omega, by omega, h3, h4⟩
    · rintro ⟨j, h1, h2, h3, h4⟩
      by_cases e : j = k
      · subst e
        exact .inl (by rw [if_neg h3]; simpa using h4)
      · exact .inr ⟨j, by omega, by omega, h3, h4⟩
theorem opts_0 (w : Wheel) (c : Int) (l : List Int) : ∀ d k, opts w 0 c l d k = optC0 w 0 c l d k
  | 0, k => rfl
  | d + 1, k => by
    simp only [opts, optC0, opts_0 w c l d (k + 1)]
    congr 1
    split
    · rfl
    · unfold optK
      rw [if_pos (.inr rfl)]
def valQ (b : Bool) (w : Wheel) (T : Nat) (l : List Int) (o : Opn) : Int := o.plays + Q b w T o.p o.c (lessP l o.k)
def opt2 (b : Bool) (x y : Int) : Int := cond b (max x y) (min x y)
theorem leB_opt2 (b : Bool) (x y : Int) : leB b x (opt2 b x y) ∧ leB b y (opt2 b x y) ∧ (opt2 b x y = x ∨ opt2 b x y = y) := by
  cases b
  · simp only [leB, opt2, cond_false]; omega
  · simp only [leB, opt2, cond_true]; omega
/-- The coins, then those behind a selection. -/
theorem Q_split (b : Bool) (w : Wheel) (T : Nat) (p c : Int) (l : List Int) (hc : c ≠ 0) (hp : p ≠ 0) (ht : total l ≠ 0) :
    Q b w (T + 1) p c l = opt2 b (pick b ((optC0 w p c l l.length 0).map (valQ b w T l))) (Q b w (T + 1) 0 (c - 1) l) := by
  have h0 : Q b w (T + 1) 0 (c - 1) l = pick b ((optC0 w 0 (c - 1) l l.length 0).map (valQ b w T l)) := by
    simp only [Q, opts_0]
    rfl
  rw [h0]
  obtain ⟨j, h1, h2, _⟩ := opts_ne (w := w) (p := p) (c := c) ht
  have e1 : (optC0 w p c l l.length 0).map (valQ b w T l) ≠ [] := by
    intro e
    have := List.mem_map_of_mem (f := valQ b w T l) (optC0_mem.2 ⟨j, by omega, by omega, h2, rfl⟩ : optC w p c j ∈ optC0 w p c l l.length 0)
    rw [e] at this
    simp at this
  have e2 : (optC0 w 0 (c - 1) l l.length 0).map (valQ b w T l) ≠ [] := by
    intro e
    have := List.mem_map_of_mem (f := valQ b w T l) (optC0_mem.2 ⟨j, by omega, by omega, h2, rfl⟩ : optC w 0 (c - 1) j ∈ optC0 w 0 (c - 1) l l.length 0)
    rw [e] at this
    simp at this
  obtain ⟨a1, a2⟩ := pick_spec b e1
  obtain ⟨b1, b2⟩ := pick_spec b e2
  obtain ⟨m1, m2, m3⟩ := leB_opt2 b (pick b ((optC0 w p c l l.length 0).map (valQ b w T l))) (pick b ((optC0 w 0 (c - 1) l l.length 0).map (valQ b w T l)))
  have vs : ∀ j, valQ b w T l (optS w c j) = valQ b w T l (optC w 0 (c - 1) j) := fun j => rfl
  simp only [Q]
  refine pick_eq b ?_ ?_
  · show _ ∈ (opts w p c l l.length 0).map (valQ b w T l)
    rw [List.mem_map]
    rcases m3 with m3 | m3
    · rw [m3]
      obtain ⟨o, ho, he⟩ := List.mem_map.1 a1
      obtain ⟨j, q1, q2, q3, rfl⟩ := optC0_mem.1 ho
      exact ⟨_, opts_mem.2 ⟨j, q1, q2, q3, optK_mem.2 (.inl rfl)⟩, he⟩
    · rw [m3]
      obtain ⟨o, ho, he⟩ := List.mem_map.1 b1
      obtain ⟨j, q1, q2, q3, rfl⟩ := optC0_mem.1 ho
      exact ⟨optS w c j, opts_mem.2 ⟨j, q1, q2, q3, optK_mem.2 (.inr ⟨hc, hp, rfl⟩)⟩, by rw [vs]; exact he⟩
  · intro v hv
    obtain ⟨o, ho, he⟩ := List.mem_map.1 hv
    obtain ⟨j, q1, q2, q3, q4⟩ := opts_mem.1 ho
    rw [← he]
    rcases optK_mem.1 q4 with rfl | ⟨_, _, rfl⟩
    · exact (a2 _ (List.mem_map_of_mem (f := valQ b w T l) (optC0_mem.2 ⟨j, q1, q2, q3, rfl⟩))).trans m1
    · refine leB.trans ?_ m2
      show leB b (valQ b w T l (optS w c j)) _
      rw [vs]
      exact b2 _ (List.mem_map_of_mem (f := valQ b w T l) (optC0_mem.2 ⟨j, q1, q2, q3, rfl⟩))
/-! ### Purses of a wheel -/
def isPurse (w : Wheel) (l : List Int) : Bool := decide (l.length = w.Coins.length) && l.all (fun x => inR x 0 12) && decide (total l ≤ 12)
theorem purse_ok {w : Wheel} {l : List Int} (h : isPurse w l = true) : OkP w l ∧ total l ≤ 12 := by
  simp only [isPurse, Bool.and_eq_true, decide_eq_true_eq, List.all_eq_true] at h
  exact ⟨⟨h.1.1, fun x hx => (inR_iff.1 (h.1.2 x hx)).1, by omega⟩, h.2⟩
theorem IsPurse_eq {n : Nat} {w : Wheel} (hw : w.Coins.length < 100000) (hn : w.Coins.length < n) (l : List Int) : ref01_IsPurse n w l = some (isPurse w l) := by
  unfold ref01_IsPurse isPurse
  by_cases hl : l.length = w.Coins.length
  · rw [if_neg (by simp; omega)]
    have key := loopI (F := fun m i (s : Int) => ref01_IsPurse_l1 l m s i) (xs := l) (spec := fun k s => some (k.all (fun x => inR x 0 12) && decide (s + total k ≤ 12))) (I := fun k s => 0 ≤ s ∧ s + 12 * k.length ≤ 100000000) (by omega)
      (fun m s hI => by simp [ref01_IsPurse_l1, ref01_IsPurse_l1_b, ref01_IsPurse_j1, total])
      (fun m i x k s hI hx hi _ _ hrec => by
        simp only [List.length_cons] at hI
        simp only [ref01_IsPurse_l1, ref01_IsPurse_l1_b]
        rw [if_pos (by simpa using hi), hx, bnd_some, Within_eq, bnd_some, bnd_some]
        by_cases q : inR x 0 12 = true
        · have := inR_iff.1 q
          rw [if_neg (by simp [q]), w64_id (x := s + x) (by omega) (by omega), hrec (s + x) ⟨by omega, by omega⟩]
          have e : s + total (x :: k) = s + x + total k := by simp only [total]; omega
          rw [e]
          simp only [List.all_cons, q, Bool.true_and]
        · rw [if_pos (by simpa using q)]
          simp [q])
      l 0 n 0 (by omega) rfl (by omega) ⟨by omega, by omega⟩
    rw [show ref01_IsPurse_l1 l n 0 0 = _ from key]
    simp [hl]
  · rw [if_pos (by simp; omega)]
    simp [hl]
theorem total_le : ∀ {l : List Int}, (∀ x, x ∈ l → 0 ≤ x ∧ x ≤ 12) → total l ≤ 12 * l.length
  | [], _ => by simp [total]
  | x :: l, h => by
    have h1 := h x (by simp)
    have h2 := total_le (l := l) (fun y hy => h y (by simp [hy]))
    simp only [total, List.length_cons]
    omega
theorem total_append : ∀ (a b : List Int), total (a ++ b) = total a + total b
  | [], b => by simp [total]
  | x :: a, b => by
    simp only [List.cons_append, total]
    rw [total_append a b]
    omega
/-- What seek finds. -/
theorem seek_c1 {n : Nat} {w : Wheel} (h : OkW w) (hn : 100 ≤ n) (l : List Int) (hl : l.length < 100000) (hn2 : l.length < n) : ∃ st, coins_seek_c1 n ⟨w⟩ l (spot [] 0 0) = some (isPurse w l, st) ∧ (isPurse w l = true → st = spot l 0 0) := by
  have h4 := h.clen
  have key : ∀ (k pre : List Int) (m : Nat) (s : Int), l = pre ++ k → k.length < m → pre.length ≤ w.Coins.length → s = total pre → (∀ x, x ∈ pre → 0 ≤ x ∧ x ≤ 12) →
      ∃ st, coins_seek_c1_l1 ⟨w⟩ (spot [] 0 0) l m s (pre.length : Int) (pre.getD 0 0) (pre.getD 1 0) (pre.getD 2 0) (pre.getD 3 0) = some (isPurse w l, st) ∧ (isPurse w l = true → st = spot l 0 0) := by
    intro k
    induction k with
    | nil =>
      intro pre m s he hm hpl hs hx
      obtain ⟨m, rfl⟩ : ∃ q, m = q + 1 := ⟨m - 1, by omega⟩
      rw [List.append_nil] at he
      subst he
      have hall : l.all (fun x => inR x 0 12) = true := List.all_eq_true.2 fun x hx' => inR_iff.2 (hx x hx')
      simp only [coins_seek_c1_l1, coins_seek_c1_l1_b]
      rw [if_neg (by simp)]
      unfold coins_seek_c1_j1 coins_seek_c1_j2 isPurse
      rw [hall]
      by_cases e : l.length = w.Coins.length
      · rw [if_pos (by simp; omega)]
        exact ⟨spot l 0 0, by simp [e, hs]; rfl, fun _ => rfl⟩
      · rw [if_neg (by simp; omega)]
        exact ⟨spot l 0 0, by simp [e]; rfl, fun q => by simp [e] at q⟩
    | cons x k ih =>
      intro pre m s he hm hpl hs hx
      obtain ⟨m, rfl⟩ : ∃ q, m = q + 1 := ⟨m - 1, by omega⟩
      simp only [List.length_cons] at hm
      have hlen : l.length = pre.length + (k.length + 1) := by rw [he]; simp
      have hxi : idx l (pre.length : Int) = some x := by rw [he, idx_mid]
      simp only [coins_seek_c1_l1, coins_seek_c1_l1_b]
      rw [if_pos (by simp; omega), hxi, bnd_some]
      by_cases e : pre.length ≥ w.Coins.length
      · rw [if_pos (by simp; omega)]
        unfold coins_seek_c1_j3
        rw [if_pos rfl]
        have hf : isPurse w l = false := by
          unfold isPurse
          rw [show decide (l.length = w.Coins.length) = false by simp; omega]
          rfl
        rw [hf]
        exact ⟨_, rfl, fun q => by cases q⟩
      · rw [if_neg (by simp; omega), within_eq, bnd_some]
        unfold coins_seek_c1_j3
        by_cases q : inR x 0 12 = true
        · have hxr := inR_iff.1 q
          have hb := total_nn (l := pre) (fun y hy => (hx y hy).1)
          have hb2 := total_le hx
          rw [if_neg (by simp [q])]
          have hset : setI ([pre.getD 0 0, pre.getD 1 0, pre.getD 2 0, pre.getD 3 0] : List Int) (pre.length : Int) x = some (bag4 (pre ++ [x])) := by
            match pre, (show pre.length < 4 by omega) with
            | [], _ => rfl
            | [a], _ => rfl
            | [a, b], _ => rfl
            | [a, b, c], _ => rfl
          have hidx : ∃ y, idx ([pre.getD 0 0, pre.getD 1 0, pre.getD 2 0, pre.getD 3 0] : List Int) (pre.length : Int) = some y := ⟨_, idx_nat (by simp; omega)⟩
          obtain ⟨y, hy⟩ := hidx
          rw [hy, bnd_some, hset, bnd_some, w64_id (x := s + x) (by omega) (by omega), w64_id (x := (pre.length : Int) + 1) (by omega) (by omega)]
          have := ih (pre ++ [x]) m (s + x) (by simp [he]) (by omega) (by simp; omega) (by
            rw [hs, total_append]
            simp [total]) (fun z hz => by
            rcases List.mem_append.1 hz with hz | hz
            · exact hx z hz
            · simp only [List.mem_singleton] at hz
              subst hz
              exact hxr)
          rw [show (((pre ++ [x]).length : Nat) : Int) = (pre.length : Int) + 1 by simp] at this
          exact this
        · rw [if_pos (by simpa using q)]
          have hf : isPurse w l = false := by
            unfold isPurse
            have : l.all (fun x => inR x 0 12) = false := by
              rw [he, List.all_append, List.all_cons, show inR x 0 12 = false by simpa using q]
              simp
            rw [this]
            simp
          rw [hf]
          exact ⟨_, rfl, fun q => by cases q⟩
  exact key l [] n 0 rfl hn2 (by simp) rfl (fun x hx => by simp at hx)
theorem open_eqS {S : Type} {n : Nat} {w : Wheel} (hl : okLen n w) (aF : Wheel_ → S → Option (Bool × S)) (s s' : S) (b : Bool) (ha : valid w = true → aF ⟨w⟩ s = some (b, s')) :
    ∃ s0, coins_open n aF w s = some (cond (valid w) (cond b (((⟨w⟩ : Wheel_), 0), s') ((zw, 1), s')) ((zw, 10), s0)) ∧ (valid w = true → s0 = s0) := by
  unfold coins_open
  rw [Check_eq hl, bnd_some]
  cases hv : valid w with
  | false => exact ⟨s, rfl, fun _ => rfl⟩
  | true =>
    rw [ha hv]
    cases b <;> exact ⟨s, rfl, fun _ => rfl⟩
theorem seek_eq {n : Nat} {w : Wheel} (hw : okLen n w) (hn : 100 ≤ n) (l : List Int) (hl : l.length < 100000) (hn2 : l.length < n) (b : Bool) :
    coins_seek n w l b = some (if valid w = true then (if isPurse w l = true then (some ⟨w⟩, spot l 0 0, 0) else (none, spot [] 0 0, 1)) else (none, spot [] 0 0, 10)) := by
  unfold coins_seek
  by_cases hv : valid w = true
  · have h := valid_ok hv
    obtain ⟨st, h1, h2⟩ := seek_c1 h hn l hl hn2
    obtain ⟨s0, h3, _⟩ := open_eqS hw (fun (x0 : Wheel_) s => coins_seek_c1 n x0 l s) (spot [] 0 0) st (isPurse w l) (fun _ => h1)
    rw [show (⟨⟨0, 0, 0, 0⟩, 0, 0⟩ : Spot_) = spot [] 0 0 from rfl, h3, bnd_some, hv]
    cases hp : isPurse w l with
    | true => simp [h2 hp]
    | false => simp
  · have hv' : valid w = false := by simpa using hv
    obtain ⟨s0, h3, _⟩ := open_eqS hw (fun (x0 : Wheel_) s => coins_seek_c1 n x0 l s) (spot [] 0 0) (spot [] 0 0) true (fun q => by rw [hv'] at q; cases q)
    rw [show (⟨⟨0, 0, 0, 0⟩, 0, 0⟩ : Spot_) = spot [] 0 0 from rfl, h3, bnd_some, hv']
    simp
def bestS (b : Bool) (w : Wheel) (l : List Int) : Int × Int :=
  if valid w = true then (if isPurse w l = true then (Q b w (total l).toNat 0 0 l, 0) else (0, 1)) else (0, 10)
theorem buys_start {n : Nat} {b : Bool} {w : Wheel} (h : OkW w) (hn : 400 ≤ n) {l : List Int} (hp : isPurse w l = true) {M : List (Spot_ × Int)} (hM : InvM b w M) : ∃ M', coins_search_buys n (⟨w⟩, b) (spot l 0 0) M = some (Q b w (total l).toNat 0 0 l, M') ∧ InvM b w M' := by
  obtain ⟨hl, h12⟩ := purse_ok hp
  have := total_nn hl.nn
  have := h.r1
  exact buys_eq h (total l).toNat n 0 0 l M (by omega) (by omega) hl (by omega) (by omega) (by omega) (by omega) hM
theorem Most_eq {n : Nat} {w : Wheel} (hw : okLen n w) (hn : 400 ≤ n) (l : List Int) (hl : l.length < 100000) (hn2 : l.length < n) : coins_Most n w l = some (bestS true w l) := by
  unfold coins_Most bestS
  rw [seek_eq hw (by omega) l hl hn2, bnd_some]
  by_cases hv : valid w = true
  · rw [if_pos hv, if_pos hv]
    by_cases hp : isPurse w l = true
    · obtain ⟨M', h1, _⟩ := buys_start (valid_ok hv) hn hp (InvM.nil true w)
      rw [if_pos hp, if_pos hp]
      simp only [Option.isSome_some, if_true, bnd_some, bne_self_eq_false, Bool.false_eq_true, if_false]
      rw [h1, bnd_some]
    · rw [if_neg hp, if_neg hp]
      rfl
  · rw [if_neg hv, if_neg hv]
    rfl

/-! ### Ways -/
/-- The plays that the coins of some acts give. -/
def buysL (w : Wheel) : Stand → List Int → Int
  | _, [] => 0
  | s, a :: l => (if 0 ≤ a then (turn w s.Place (coin w a)).2 else 0) + buysL w (actS w s a).1 l
def cnt (k : Int) : List Int → Int
  | [] => 0
  | a :: l => (if a = k then 1 else 0) + cnt k l
theorem cnt_append (k : Int) : ∀ (a b : List Int), cnt k (a ++ b) = cnt k a + cnt k b
  | [], b => by simp [cnt]
  | x :: a, b => by
    simp only [List.cons_append, cnt]
    rw [cnt_append k a b]
    omega
/-- A way to put a purse in. -/
structure Way (w : Wheel) (s : Stand) (l acts : List Int) (q : Int) : Prop where
  ok : acts.all (okAct w) = true
  len : (acts.length : Int) ≤ 2 * total l
  bag : ∀ k : Nat, k < w.Coins.length → cnt k acts = l.getD k 0
  buys : buysL w s acts = q
theorem lessP_getD {l : List Int} {k j : Nat} (hk : k < l.length) : (lessP l k).getD j 0 = l.getD j 0 - (if k = j then 1 else 0) := by
  unfold lessP
  by_cases e : k = j
  · subst e
    rw [if_pos rfl, List.getD_eq_getElem?_getD, List.getElem?_set_self hk]
    rfl
  · rw [if_neg e, List.getD_eq_getElem?_getD, List.getElem?_set_ne e, ← List.getD_eq_getElem?_getD]
    omega
theorem okAct_k {w : Wheel} {k : Nat} (h : k < w.Coins.length) : okAct w k = true := inR_iff.2 ⟨by omega, by omega⟩
theorem okAct_s {w : Wheel} : okAct w (-1) = true := inR_iff.2 ⟨by omega, by omega⟩
theorem actS_k (w : Wheel) (p c : Int) (k : Nat) : actS w ⟨p, c⟩ (k : Int) = (⟨(optC w p c k).p, (optC w p c k).c⟩, false) := by
  unfold actS
  rw [if_pos (by omega)]
  rfl
theorem actS_s (w : Wheel) (p c : Int) (hc : c ≠ 0) : actS w ⟨p, c⟩ (-1) = (⟨0, c - 1⟩, true) := by
  unfold actS
  rw [if_neg (by omega), if_neg hc]
/-- A step, and a way behind it. -/
theorem Way.step {w : Wheel} {p c : Int} {l acts : List Int} {q : Int} {o : Opn} (hl : OkP w l) (hc : 0 ≤ c) (ho : o ∈ opts w p c l l.length 0) (h : Way w ⟨o.p, o.c⟩ (lessP l o.k) acts q) : Way w ⟨p, c⟩ l (o.acts ++ acts) (o.plays + q) := by
  obtain ⟨j, _, h2, h3, h4⟩ := opts_mem.1 ho
  have hj : j < l.length := by omega
  have hj' : j < w.Coins.length := by have := hl.len; omega
  rcases optK_mem.1 h4 with rfl | ⟨h5, h6, rfl⟩
  · refine ⟨?_, ?_, fun k hk => ?_, ?_⟩
    · show List.all ([(j : Int)] ++ acts) (okAct w) = true
      rw [List.singleton_append, List.all_cons, okAct_k hj', h.ok]
      rfl
    · have := h.len
      have e := total_less hj
      show ((([(j : Int)] ++ acts).length : Nat) : Int) ≤ _
      rw [show (optC w p c j).k = j from rfl] at this
      simp
      omega
    · show cnt k ((j : Int) :: acts) = _
      simp only [cnt]
      rw [h.bag k hk, show (optC w p c j).k = j from rfl, lessP_getD hj]
      by_cases e : j = k
      · rw [if_pos (by omega), if_pos e]; omega
      · rw [if_neg (by omega), if_neg e]; omega
    · show buysL w ⟨p, c⟩ ((j : Int) :: acts) = _
      simp only [buysL]
      rw [if_pos (by omega), actS_k, h.buys]
      rfl
  · refine ⟨?_, ?_, fun k hk => ?_, ?_⟩
    · show List.all ([-1, (j : Int)] ++ acts) (okAct w) = true
      rw [List.cons_append, List.singleton_append, List.all_cons, List.all_cons, okAct_k hj', okAct_s, h.ok]
      rfl
    · have := h.len
      have e := total_less hj
      show ((([-1, (j : Int)] ++ acts).length : Nat) : Int) ≤ _
      rw [show (optS w c j).k = j from rfl] at this
      simp
      omega
    · show cnt k (-1 :: (j : Int) :: acts) = _
      simp only [cnt]
      rw [h.bag k hk, show (optS w c j).k = j from rfl, lessP_getD hj, if_neg (by omega)]
      by_cases e : j = k
      · rw [if_pos (by omega), if_pos e]; omega
      · rw [if_neg (by omega), if_neg e]; omega
    · show buysL w ⟨p, c⟩ (-1 :: (j : Int) :: acts) = _
      simp only [buysL]
      rw [if_neg (by omega), actS_s w p c h5]
      simp only []
      rw [if_pos (by omega), actS_k]
      rw [show (⟨(optC w 0 (c - 1) j).p, (optC w 0 (c - 1) j).c⟩ : Stand) = ⟨(optS w c j).p, (optS w c j).c⟩ from rfl, h.buys]
      show 0 + ((turn w 0 (coin w j)).2 + q) = (turn w 0 (coin w j)).2 + q
      omega
theorem Q_some {w : Wheel} {T : Nat} {p c : Int} {l : List Int} (b : Bool) (h0 : total l ≠ 0) : ∃ o, o ∈ opts w p c l l.length 0 ∧ o.plays + Q b w T o.p o.c (lessP l o.k) = Q b w (T + 1) p c l := by
  obtain ⟨j, h1, h2, h3⟩ := opts_ne (w := w) (p := p) (c := c) h0
  have e : ((opts w p c l l.length 0).map fun o => o.plays + Q b w T o.p o.c (lessP l o.k)) ≠ [] := by
    intro e
    rw [List.map_eq_nil_iff] at e
    rw [e] at h3
    simp at h3
  obtain ⟨a1, _⟩ := pick_spec b e
  obtain ⟨o, ho, he⟩ := List.mem_map.1 a1
  exact ⟨o, ho, he⟩
theorem Q_le {w : Wheel} {T : Nat} {p c : Int} {l : List Int} (b : Bool) {o : Opn} (ho : o ∈ opts w p c l l.length 0) : leB b (o.plays + Q b w T o.p o.c (lessP l o.k)) (Q b w (T + 1) p c l) := by
  have hm := List.mem_map_of_mem (f := fun o : Opn => o.plays + Q b w T o.p o.c (lessP l o.k)) ho
  have e : ((opts w p c l l.length 0).map fun o => o.plays + Q b w T o.p o.c (lessP l o.k)) ≠ [] := by
    intro e
    rw [e] at hm
    simp at hm
  exact (pick_spec b e).2 _ hm
/-- There is a way that buys so much. -/
theorem Q_way (b : Bool) {w : Wheel} (h : OkW w) : ∀ (T : Nat) {p c : Int} {l : List Int}, (T : Int) = total l → OkP w l → 0 ≤ p → p < w.Round → 0 ≤ c → ∃ acts, Way w ⟨p, c⟩ l acts (Q b w T p c l)
  | 0, p, c, l, hT, hl, _, _, _ => ⟨[], rfl, by simp; omega, fun k hk => by rw [total_zero hl.nn (by omega) k]; rfl, rfl⟩
  | T + 1, p, c, l, hT, hl, hp, hp', hc => by
    obtain ⟨o, ho, he⟩ := Q_some (w := w) (T := T) (p := p) (c := c) b (show total l ≠ 0 by omega)
    have ok := opts_ok h hp hp' hc hl ho
    obtain ⟨acts, hw⟩ := Q_way b h T (p := o.p) (c := o.c) (l := lessP l o.k) (by rw [total_less (by rw [hl.len]; exact ok.k)]; omega) (hl.less ok.k ok.nz) ok.p0 ok.p1 ok.c0
    exact ⟨o.acts ++ acts, he ▸ hw.step hl hc ho⟩

/-! ### The code: Order -/
/-! ### The reference: Bag, Buys; isWay -/
theorem cnt_range (k : Int) : ∀ l : List Int, 0 ≤ cnt k l ∧ cnt k l ≤ l.length
  | [] => by simp [cnt]
  | a :: l => by
    have := cnt_range k l
    simp only [cnt, List.length_cons]
    split <;> omega

theorem Q_mono (b : Bool) {w : Wheel} (h : OkW w) : ∀ (T : Nat) {p c c' : Int} {l : List Int}, (T : Int) = total l → OkP w l → 0 ≤ p → p < w.Round → 0 ≤ c → c ≤ c' → leB b (Q b w T p c l) (Q b w T p c' l)
  | 0, p, c, c', l, _, _, _, _, _, _ => leB.refl b _
  | T + 1, p, c, c', l, hT, hl, hp, hp', hc, hcc => by
    obtain ⟨o, ho, he⟩ := Q_some (w := w) (T := T) (p := p) (c := c) b (show total l ≠ 0 by omega)
    have ok := opts_ok h hp hp' hc hl ho
    have hT' : (T : Int) = total (lessP l o.k) := by rw [total_less (by rw [hl.len]; exact ok.k)]; omega
    obtain ⟨j, h1, h2, h3, h4⟩ := opts_mem.1 ho
    rw [← he]
    rcases optK_mem.1 h4 with rfl | ⟨h5, h6, rfl⟩
    · have ih := Q_mono b h T (p := (optC w p c j).p) (c := (optC w p c j).c) (c' := (optC w p c' j).c) hT' (hl.less ok.k ok.nz) ok.p0 ok.p1 ok.c0 (by show c + _ ≤ c' + _; omega)
      exact (ih.add _).trans (Q_le (T := T) (p := p) (c := c') b (o := optC w p c' j) (opts_mem.2 ⟨j, h1, h2, h3, optK_mem.2 (.inl rfl)⟩))
    · have ih := Q_mono b h T (p := (optS w c j).p) (c := (optS w c j).c) (c' := (optS w c' j).c) hT' (hl.less ok.k ok.nz) ok.p0 ok.p1 ok.c0 (by show c - 1 + _ ≤ c' - 1 + _; omega)
      exact (ih.add _).trans (Q_le (T := T) (p := p) (c := c') b (o := optS w c' j) (opts_mem.2 ⟨j, h1, h2, h3, optK_mem.2 (.inr ⟨by omega, h6, rfl⟩)⟩))
/-- A selection does not help more than the best. -/
theorem Q_sel (b : Bool) {w : Wheel} (h : OkW w) {T : Nat} {p c : Int} {l : List Int} (hT : (T : Int) = total l) (hl : OkP w l) (hp : 0 ≤ p) (hp' : p < w.Round) (hc : 0 < c) : leB b (Q b w T 0 (c - 1) l) (Q b w T p c l) := by
  have hr := h.r1
  cases T with
  | zero => exact leB.refl b _
  | succ T =>
    by_cases e : p = 0
    · subst e
      exact Q_mono b h (T + 1) hT hl (by omega) (by omega) (by omega) (by omega)
    · rw [Q_split b w T p c l (by omega) e (by omega)]
      exact (leB_opt2 b _ _).2.1
theorem cnt_nil {w : Wheel} {l : List Int} (hl : OkP w l) (h : ∀ k : Nat, k < w.Coins.length → (0 : Int) = l.getD k 0) : total l = 0 := by
  by_cases e : total l = 0
  · exact e
  · obtain ⟨j, h1, h2⟩ := exists_nz e
    exact (h2 (h j (by rw [← hl.len]; exact h1)).symm).elim
theorem way_le (b : Bool) {w : Wheel} (h : OkW w) : ∀ (acts : List Int) {p c : Int} {l : List Int}, acts.all (okAct w) = true → (∀ k : Nat, k < w.Coins.length → cnt k acts = l.getD k 0) → OkP w l → 0 ≤ p → p < w.Round → 0 ≤ c → leB b (buysL w ⟨p, c⟩ acts) (Q b w (total l).toNat p c l)
  | [], p, c, l, _, hk, hl, _, _, _ => by
    rw [cnt_nil hl hk]
    exact leB.refl b 0
  | a :: acts, p, c, l, hok, hk, hl, hp, hp', hc => by
    have hr := h.r1
    simp only [List.all_cons, Bool.and_eq_true] at hok
    have ha := inR_iff.1 hok.1
    by_cases h0 : 0 ≤ a
    · obtain ⟨k, rfl⟩ : ∃ k : Nat, a = k := ⟨a.toNat, by omega⟩
      have hkl : k < w.Coins.length := by omega
      have hkl' : k < l.length := by rw [hl.len]; exact hkl
      have hnz : l.getD k 0 ≠ 0 := by
        have e := hk k hkl
        simp only [cnt] at e
        have := cnt_range (k : Int) acts
        rw [if_pos trivial] at e
        omega
      have hco := coin_range h (a := (k : Int)) (by omega) (by omega)
      have ht := turn_range h hp hp' (show 0 ≤ coin w k by omega)
      have hlt := total_less hkl'
      have hnn := total_nn (hl.less hkl hnz).nn
      have ih := way_le b h acts (p := (optC w p c k).p) (c := (optC w p c k).c) (l := lessP l k) hok.2 (fun j hj => by
        have e := hk j hj
        simp only [cnt] at e
        rw [lessP_getD hkl']
        by_cases q : k = j
        · rw [if_pos (by omega)] at e; rw [if_pos q]; omega
        · rw [if_neg (by omega)] at e; rw [if_neg q]; omega) (hl.less hkl hnz) ht.1.1 ht.1.2 (by show 0 ≤ c + _; omega)
      simp only [buysL]
      rw [if_pos h0, actS_k]
      have eT : (total l).toNat = (total (lessP l k)).toNat + 1 := by omega
      rw [eT]
      exact (ih.add _).trans (Q_le b (o := optC w p c k) (opts_mem.2 ⟨k, by omega, by omega, hnz, optK_mem.2 (.inl rfl)⟩))
    · have ea : a = -1 := by omega
      subst ea
      have hk' : ∀ k : Nat, k < w.Coins.length → cnt k acts = l.getD k 0 := fun k hkl => by
        have e := hk k hkl
        simp only [cnt] at e
        rw [if_neg (by omega)] at e
        omega
      simp only [buysL]
      rw [if_neg h0, Int.zero_add]
      by_cases hc0 : c = 0
      · have e : (actS w ⟨p, c⟩ (-1)).1 = ⟨p, c⟩ := by
          unfold actS
          rw [if_neg h0, if_pos hc0]
        rw [e]
        exact way_le b h acts hok.2 hk' hl hp hp' hc
      · rw [actS_s w p c hc0]
        have hnn := total_nn hl.nn
        exact (way_le b h acts hok.2 hk' hl (by omega) (by omega) (by omega)).trans (Q_sel b h (by omega) hl hp hp' (by omega))
def richB (w : Wheel) (l : List Int) : Bool := decide ((l.length : Int) > 40) || (valid w && isPurse w l && decide (total l > 6))
theorem rich_eq {n : Nat} {w : Wheel} (hn : 100 ≤ n) (hw : okLen n w) (hwc : w.Coins.length < 100000) (l : List Int) : law01_rich n w l = some (richB w l) := by
  unfold law01_rich richB
  by_cases q : (l.length : Int) > 40
  · rw [if_pos (by simpa using q)]
    simp [q]
  · rw [if_neg (by simpa using q), rCheck_eq hw, bnd_some]
    rw [show decide ((l.length : Int) > 40) = false by simpa using q, Bool.false_or]
    cases hv : valid w with
    | false => rfl
    | true =>
      simp only [cond_true, bne_self_eq_false, Bool.false_eq_true, if_false, Bool.true_and]
      rw [IsPurse_eq hwc hw.2.2.2, bnd_some]
      cases hp : isPurse w l with
      | false => rfl
      | true =>
        obtain ⟨hok, h12⟩ := purse_ok hp
        have hsub : ∀ x, x ∈ l → 0 ≤ x ∧ x ≤ 12 := by
          simp only [isPurse, Bool.and_eq_true, List.all_eq_true] at hp
          exact fun x hx => inR_iff.1 (hp.1.2 x hx)
        unfold law01_rich_j1
        rw [if_neg (by simp)]
        have key := loopI (F := fun m i (s : Int) => law01_rich_l1 l m s i) (xs := l) (spec := fun k s => some (decide (s + total k > 6))) (I := fun k s => (0 ≤ s ∧ s + 12 * k.length ≤ 100000000) ∧ ∀ x, x ∈ k → 0 ≤ x ∧ x ≤ 12) (by omega)
          (fun m s hI => by simp [law01_rich_l1, law01_rich_l1_b, law01_rich_j2, total])
          (fun m i x k s hI hx hi _ _ hrec => by
            simp only [List.length_cons] at hI
            have := hI.2 x (by simp)
            simp only [law01_rich_l1, law01_rich_l1_b]
            have e : s + total (x :: k) = s + x + total k := by simp only [total]; omega
            rw [if_pos (by simpa using hi), hx, bnd_some, w64_id (x := s + x) (by omega) (by omega), hrec (s + x) ⟨⟨by omega, by omega⟩, fun y hy => hI.2 y (by simp [hy])⟩, e])
          l 0 n 0 (by omega) rfl (by omega) ⟨⟨by omega, by omega⟩, hsub⟩
        rw [show law01_rich_l1 l n 0 0 = _ from key]
        simp

/-! ### What a purse is worth -/
/-! ### Parts of a purse -/
def down : Nat → List Int
  | 0 => [0]
  | n + 1 => ((n + 1 : Nat) : Int) :: down n
/-! ### Wasted -/
def cutP (w : Wheel) (t : List Int) : List Int := t.take w.Coins.length
structure OkT (w : Wheel) (t : List Int) : Prop where
  len : t.length = 4
  rng : ∀ k, 0 ≤ t.getD k 0 ∧ t.getD k 0 ≤ 1000
  out : ∀ k, w.Coins.length ≤ k → t.getD k 0 = 0
  tot : total (cutP w t) ≤ 1000
theorem cutP_getD {w : Wheel} {t : List Int} (h : OkT w t) (k : Nat) : (cutP w t).getD k 0 = t.getD k 0 := by
  unfold cutP
  rw [List.getD_eq_getElem?_getD, List.getElem?_take]
  split
  · rfl
  · rw [h.out k (by omega)]
    rfl
theorem OkT.bag {w : Wheel} {t : List Int} (h : OkT w t) : bagOf t = bagOf (cutP w t) := by
  simp only [bagOf, cutP_getD h]

/-! ### Sums of coins, and the plays from the beginning -/
inductive Rep (w : Wheel) : Int → Prop
  | zero : Rep w 0
  | add (s : Int) (k : Nat) : Rep w s → k < w.Coins.length → Rep w (s + coin w k)
def cN (w : Wheel) (s : Int) : Int := (turn w 0 s).2
theorem kcoin {w : Wheel} (h : OkW w) {k : Nat} (hk : k < w.Coins.length) : 1 ≤ coin w k ∧ coin w k ≤ 100 := coin_range h (a := (k : Int)) (by omega) (by omega)
theorem Rep.nn {w : Wheel} (h : OkW w) {s : Int} (hs : Rep w s) : 0 ≤ s := by
  induction hs with
  | zero => omega
  | add s k _ hk ih => have := kcoin h hk; omega
theorem cN_nn {w : Wheel} (h : OkW w) {s : Int} (hs : 0 ≤ s) : 0 ≤ cN w s ∧ cN w s ≤ s := by
  have := h.r1
  have := turn_range h (p := 0) (by omega) (by omega) hs
  exact this.2
theorem cN_zero {w : Wheel} (h : OkW w) : cN w 0 = 0 := by have := cN_nn h (s := 0) (by omega); omega
theorem turn_zero {w : Wheel} (h : OkW w) : turn w 0 0 = (0, 0) := by
  have := h.r1
  have e := put_turn h (p := 0) (by omega) (by omega) 0
  rw [show turn w 0 0 = turn w 0 ((0 : Nat) : Int) from rfl, ← e]
  rfl
theorem place_range {w : Wheel} (h : OkW w) {s : Int} (hs : 0 ≤ s) : 0 ≤ (turn w 0 s).1 ∧ (turn w 0 s).1 < w.Round := by
  have := h.r1
  exact (turn_range h (p := 0) (by omega) (by omega) hs).1
theorem cN_add {w : Wheel} (h : OkW w) {s c : Int} (hs : 0 ≤ s) (hc : 0 ≤ c) : cN w (s + c) = cN w s + (turn w (turn w 0 s).1 c).2 ∧ (turn w 0 (s + c)).1 = (turn w (turn w 0 s).1 c).1 := by
  have := h.r1
  have := turn_add h (p := 0) (c := s) (d := c) (by omega) (by omega) hs hc
  unfold cN
  rw [this]
  exact ⟨rfl, rfl⟩
theorem cN_mono {w : Wheel} (h : OkW w) {s t : Int} (hs : 0 ≤ s) (ht : s ≤ t) : cN w s ≤ cN w t := by
  have hp := place_range h hs
  have := (cN_add h hs (show 0 ≤ t - s by omega)).1
  have := turn_range h hp.1 hp.2 (show 0 ≤ t - s by omega)
  rw [show s + (t - s) = t by omega] at *
  omega
/-- The fewest cents that buy so many plays without a selection between. -/
structure IsOne (w : Wheel) (k s : Int) : Prop where
  rep : Rep w s
  cnt : k ≤ cN w s
  least : ∀ s', Rep w s' → k ≤ cN w s' → s ≤ s'
theorem IsOne.mono {w : Wheel} {k k' s s' : Int} (h : IsOne w k s) (h' : IsOne w k' s') (hk : k ≤ k') : s ≤ s' := h.least _ h'.rep (by have := h'.cnt; omega)
theorem IsOne.pos {w : Wheel} (hw : OkW w) {k s : Int} (h : IsOne w k s) (hk : 1 ≤ k) : 1 ≤ s := by
  have := h.rep.nn hw
  have := h.cnt
  have := cN_nn hw (s := s) (by omega)
  omega
theorem IsOne.zero {w : Wheel} (hw : OkW w) {s : Int} (h : IsOne w 0 s) : s = 0 := by
  have := h.least 0 .zero (by rw [cN_zero hw]; omega)
  have := h.rep.nn hw
  omega
theorem Rep.mul {w : Wheel} {k : Nat} (hk : k < w.Coins.length) : ∀ m : Nat, Rep w ((m : Int) * coin w k)
  | 0 => by simp; exact .zero
  | m + 1 => by
    have := Rep.add _ k (Rep.mul hk m) hk
    rw [show ((m + 1 : Nat) : Int) * coin w k = (m : Int) * coin w k + coin w k by rw [Int.natCast_add, Int.add_mul]; simp]
    exact this
theorem cN_rounds {w : Wheel} (h : OkW w) : ∀ m : Nat, cN w ((m : Int) * w.Round) = m * w.Notches.length ∧ (turn w 0 ((m : Int) * w.Round)).1 = 0
  | 0 => by
    have := turn_zero h
    simp only [cN, Int.natCast_zero, Int.zero_mul, this]
    exact ⟨trivial, trivial⟩
  | m + 1 => by
    have hr := h.r1
    obtain ⟨h1, h2⟩ := cN_rounds h m
    have hs : 0 ≤ (m : Int) * w.Round := Int.mul_nonneg (by omega) (by omega)
    obtain ⟨a, b⟩ := cN_add h hs (show 0 ≤ w.Round by omega)
    rw [show ((m + 1 : Nat) : Int) * w.Round = (m : Int) * w.Round + w.Round by rw [Int.natCast_add, Int.add_mul]; simp]
    rw [a, b, h1, h2]
    have e : turn w 0 w.Round = (0, (w.Notches.length : Int)) := by
      unfold turn
      have := reached_round (show 0 < w.Round by omega) w.Notches (p := 0) (q := 1)
      rw [Int.mul_one, Int.one_mul] at this
      rw [this, Int.zero_add, Int.emod_self]
    rw [e]
    refine ⟨?_, rfl⟩
    rw [Int.natCast_add, Int.add_mul]
    simp
theorem one_some {w : Wheel} (h : OkW w) (hc : w.Coins.length ≠ 0) (hn : w.Notches.length ≠ 0) {k : Nat} (hk : k ≤ 20) : ∃ s, Rep w s ∧ (k : Int) ≤ cN w s ∧ s ≤ 4099 := by
  have hr1 := h.r1
  have hr2 := h.r2
  have hco := kcoin h (k := 0) (by omega)
  generalize hcc : coin w (0 : Nat) = c at hco
  have hm : 0 ≤ 20 * w.Round := by omega
  have hd := Int.mul_ediv_add_emod (20 * w.Round + c - 1) c
  have hd2 := Int.emod_nonneg (20 * w.Round + c - 1) (show c ≠ 0 by omega)
  have hd3 := Int.emod_lt_of_pos (20 * w.Round + c - 1) (show 0 < c by omega)
  have hq : 0 ≤ (20 * w.Round + c - 1) / c := Int.ediv_nonneg (by omega) (by omega)
  generalize (20 * w.Round + c - 1) / c = q at *
  have hrep := Rep.mul (w := w) (k := 0) (by omega) q.toNat
  rw [hcc, show ((q.toNat : Nat) : Int) = q by omega, Int.mul_comm] at hrep
  have e20 := (cN_rounds h 20).1
  have hmono := cN_mono h (s := ((20 : Nat) : Int) * w.Round) (t := c * q) (by simp; omega) (by simp; omega)
  rw [e20] at hmono
  refine ⟨c * q, hrep, ?_, by omega⟩
  have : (1 : Int) ≤ w.Notches.length := by omega
  have := Int.mul_le_mul_of_nonneg_left this (show (0 : Int) ≤ ((20 : Nat) : Int) by simp)
  simp at this hmono
  omega
theorem least_some {P : Int → Prop} : ∀ (d : Nat) {s : Int}, P s → 0 ≤ s → s ≤ d → ∃ m, P m ∧ 0 ≤ m ∧ ∀ s', P s' → 0 ≤ s' → m ≤ s'
  | 0, s, h, h0, h1 => ⟨s, h, h0, fun s' _ h' => by omega⟩
  | d + 1, s, h, h0, h1 => by
    by_cases q : ∃ s', P s' ∧ 0 ≤ s' ∧ s' < s
    · obtain ⟨s', a, b, c⟩ := q
      exact least_some d a b (by omega)
    · exact ⟨s, h, h0, fun s' a b => Classical.byContradiction fun e => q ⟨s', a, b, by omega⟩⟩
theorem one_exists {w : Wheel} (h : OkW w) (hc : w.Coins.length ≠ 0) (hn : w.Notches.length ≠ 0) (k : Nat) : ∃ s, k ≤ 20 → IsOne w k s := by
  by_cases hk : k ≤ 20
  · obtain ⟨s, h1, h2, _⟩ := one_some h hc hn hk
    obtain ⟨m, ⟨a1, a2⟩, b, c⟩ := least_some (P := fun s => Rep w s ∧ (k : Int) ≤ cN w s) s.toNat (s := s) ⟨h1, h2⟩ (h1.nn h) (by have := h1.nn h; omega)
    exact ⟨m, fun _ => ⟨a1, a2, fun s' r q => c s' ⟨r, q⟩ (r.nn h)⟩⟩
  · exact ⟨0, fun q => (hk q).elim⟩
theorem ones {w : Wheel} (h : OkW w) (hc : w.Coins.length ≠ 0) (hn : w.Notches.length ≠ 0) : ∃ one : Nat → Int, ∀ k : Nat, k ≤ 20 → IsOne w k (one k) := Classical.skolem.1 (one_exists h hc hn)

/-! ### The least, from those without a selection between -/
/-- The least of one (k+1) + best, .., in the order of the code. -/
def minF (one : Nat → Int) (best : List Int) (n : Nat) : Nat → Nat → Int → Int
  | 0, _, m => m
  | d + 1, k, m => minF one best n d (k + 1) (min m (one k + best.getD (n - k) 0))
def bestF (one : Nat → Int) : Nat → List Int
  | 0 => [0]
  | n + 1 => bestF one n ++ [minF one (bestF one n) (n + 1) n 1 (one (n + 1))]
def F (one : Nat → Int) (n : Nat) : Int := (bestF one n).getD n 0
theorem bestF_len (one : Nat → Int) : ∀ n, (bestF one n).length = n + 1
  | 0 => rfl
  | n + 1 => by simp [bestF, bestF_len one n]
theorem bestF_getD (one : Nat → Int) : ∀ (n k : Nat), k ≤ n → (bestF one n).getD k 0 = F one k
  | 0, k, hk => by
    have : k = 0 := by omega
    subst this
    rfl
  | n + 1, k, hk => by
    by_cases e : k = n + 1
    · subst e; rfl
    · have hl := bestF_len one n
      rw [← bestF_getD one n k (by omega), bestF, List.getD_eq_getElem?_getD, List.getElem?_append_left (by omega), ← List.getD_eq_getElem?_getD]
theorem F_zero (one : Nat → Int) : F one 0 = 0 := rfl
theorem minF_spec (one : Nat → Int) (best : List Int) (n : Nat) : ∀ (d k : Nat) (m : Int), minF one best n d k m ≤ m ∧ (∀ j, k ≤ j → j < k + d → minF one best n d k m ≤ one j + best.getD (n - j) 0) ∧ (minF one best n d k m = m ∨ ∃ j, k ≤ j ∧ j < k + d ∧ minF one best n d k m = one j + best.getD (n - j) 0)
  | 0, k, m => ⟨Int.le_refl m, fun j h1 h2 => by omega, .inl rfl⟩
  | d + 1, k, m => by
    obtain ⟨h1, h2, h3⟩ := minF_spec one best n d (k + 1) (min m (one k + best.getD (n - k) 0))
    simp only [minF]
    refine ⟨by omega, fun j a b => ?_, ?_⟩
    · by_cases e : j = k
      · subst e; omega
      · exact h2 j (by omega) (by omega)
    · rcases h3 with h3 | ⟨j, a, b, c⟩
      · by_cases q : m ≤ one k + best.getD (n - k) 0
        · exact .inl (by rw [h3]; omega)
        · exact .inr ⟨k, by omega, by omega, by rw [h3]; omega⟩
      · exact .inr ⟨j, by omega, by omega, c⟩
theorem F_succ (one : Nat → Int) (n : Nat) : F one (n + 1) = minF one (bestF one n) (n + 1) n 1 (one (n + 1)) := by
  have hl := bestF_len one n
  unfold F
  rw [bestF, List.getD_eq_getElem?_getD, List.getElem?_append_right (by omega), hl]
  simp
theorem F_le (one : Nat → Int) {n k : Nat} (h1 : 1 ≤ k) (h2 : k ≤ n) : F one n ≤ one k + F one (n - k) := by
  obtain ⟨n, rfl⟩ : ∃ m, n = m + 1 := ⟨n - 1, by omega⟩
  rw [F_succ]
  obtain ⟨a, b, c⟩ := minF_spec one (bestF one n) (n + 1) n 1 (one (n + 1))
  by_cases e : k = n + 1
  · subst e
    rw [Nat.sub_self, F_zero]
    omega
  · have := b k h1 (by omega)
    rw [bestF_getD one n _ (by omega)] at this
    exact this
theorem F_eq (one : Nat → Int) {n : Nat} (h : 1 ≤ n) : ∃ k, 1 ≤ k ∧ k ≤ n ∧ F one n = one k + F one (n - k) := by
  obtain ⟨n, rfl⟩ : ∃ m, n = m + 1 := ⟨n - 1, by omega⟩
  obtain ⟨a, b, c⟩ := minF_spec one (bestF one n) (n + 1) n 1 (one (n + 1))
  rcases c with c | ⟨j, c1, c2, c3⟩
  · exact ⟨n + 1, by omega, by omega, by rw [F_succ, c, Nat.sub_self, F_zero]; omega⟩
  · exact ⟨j, c1, by omega, by rw [F_succ, c3, bestF_getD one n _ (by omega)]⟩
/-- What is asked of the numbers: they rise. -/
structure Ones (one : Nat → Int) (N : Nat) : Prop where
  nn : ∀ k, k ≤ N → 0 ≤ one k
  pos : ∀ k, 1 ≤ k → k ≤ N → 1 ≤ one k
  mono : ∀ k k', k ≤ k' → k' ≤ N → one k ≤ one k'
theorem F_nn {one : Nat → Int} {N : Nat} (h : Ones one N) : ∀ n : Nat, n ≤ N → 0 ≤ F one n := by
  intro n
  induction n using Nat.strongRecOn with
  | ind n ih =>
    intro hn
    by_cases e : n = 0
    · subst e; exact Int.le_refl 0
    · obtain ⟨k, a, b, c⟩ := F_eq one (show 1 ≤ n by omega)
      have := ih (n - k) (by omega) (by omega)
      have := h.nn k (by omega)
      omega
theorem F_mono1 {one : Nat → Int} {N : Nat} (h : Ones one N) : ∀ n : Nat, n + 1 ≤ N → F one n ≤ F one (n + 1) := by
  intro n
  induction n using Nat.strongRecOn with
  | ind n ih =>
    intro hn
    obtain ⟨k, a, b, c⟩ := F_eq one (show 1 ≤ n + 1 by omega)
    by_cases e : k = n + 1
    · subst e
      rw [Nat.sub_self, F_zero] at c
      by_cases e0 : n = 0
      · subst e0
        have := F_nn h 1 (by omega)
        rw [F_zero]
        exact this
      · have h1 := F_le one (n := n) (k := n) (by omega) (by omega)
        rw [Nat.sub_self, F_zero] at h1
        have := h.mono n (n + 1) (by omega) (by omega)
        omega
    · have h1 := F_le one (n := n) (k := k) a (by omega)
      have h2 := ih (n - k) (by omega) (by omega)
      rw [show n - k + 1 = n + 1 - k by omega] at h2
      omega
theorem F_mono {one : Nat → Int} {N : Nat} (h : Ones one N) {n : Nat} : ∀ {m : Nat}, n ≤ m → m ≤ N → F one n ≤ F one m
  | 0, h1, _ => by
    have : n = 0 := by omega
    subst this
    exact Int.le_refl _
  | m + 1, h1, h2 => by
    by_cases e : n = m + 1
    · subst e; exact Int.le_refl _
    · have := F_mono h (n := n) (m := m) (by omega) (by omega)
      have := F_mono1 h m h2
      omega
theorem F_sub {one : Nat → Int} {N : Nat} (h : Ones one N) {b : Nat} : ∀ a : Nat, a + b ≤ N → F one (a + b) ≤ F one a + F one b := by
  intro a
  induction a using Nat.strongRecOn with
  | ind a ih =>
    intro hn
    by_cases e : a = 0
    · subst e
      rw [Nat.zero_add, F_zero]
      omega
    · obtain ⟨k, c1, c2, c3⟩ := F_eq one (show 1 ≤ a by omega)
      have h1 := F_le one (n := a + b) (k := k) c1 (by omega)
      have h2 := ih (a - k) (by omega) (by omega)
      rw [show a - k + b = a + b - k by omega] at h2
      omega
theorem ones_ok {w : Wheel} (h : OkW w) {one : Nat → Int} {N : Nat} (ho : ∀ k : Nat, k ≤ N → IsOne w k (one k)) : Ones one N :=
  ⟨fun k hk => (ho k hk).rep.nn h, fun k h1 hk => (ho k hk).pos h (by omega), fun k k' h1 h2 => (ho k (by omega)).mono (ho k' h2) (by omega)⟩

/-! ### No way buys so many plays for less -/
/-- What is known of a stand behind coins that are worth c cents, and so many plays. -/
def Cost (w : Wheel) (one : Nat → Int) (P : Nat) (c place bought : Int) : Prop :=
  ∃ c' s b', Rep w s ∧ c = c' + s ∧ place = (turn w 0 s).1 ∧ bought = b' + cN w s ∧ 0 ≤ b' ∧ F one (min b' P).toNat ≤ c'
theorem Cost.start {w : Wheel} (h : OkW w) {one : Nat → Int} {P : Nat} : Cost w one P 0 0 0 := by
  have e := turn_zero h
  refine ⟨0, 0, 0, .zero, rfl, by rw [e], by rw [cN_zero h]; rfl, by omega, ?_⟩
  rw [show (min 0 (P : Int)).toNat = 0 by omega]
  exact Int.le_refl 0
theorem Cost.coin {w : Wheel} (h : OkW w) {one : Nat → Int} {P : Nat} {c place bought : Int} (hc : Cost w one P c place bought) {k : Nat} (hk : k < w.Coins.length) : Cost w one P (c + coin w k) (turn w place (coin w k)).1 (bought + (turn w place (coin w k)).2) := by
  obtain ⟨c', s, b', h1, h2, h3, h4, h5, h6⟩ := hc
  have hs := h1.nn h
  have hco := kcoin h hk
  obtain ⟨a, b⟩ := cN_add h hs (show 0 ≤ Go.Law.coin w k by omega)
  exact ⟨c', s + Go.Law.coin w k, b', .add s k h1 hk, by omega, by rw [h3, b], by rw [h4, a, h3]; omega, h5, h6⟩
theorem F_take {w : Wheel} (h : OkW w) {one : Nat → Int} {P : Nat} (ho : ∀ k : Nat, k ≤ P → IsOne w k (one k)) {s : Int} (hs : Rep w s) : F one (min (cN w s) P).toNat ≤ s := by
  have hnn := hs.nn h
  have hc := cN_nn h hnn
  by_cases e : (min (cN w s) (P : Int)).toNat = 0
  · rw [e, F_zero]; exact hnn
  · have h1 := F_le one (n := (min (cN w s) (P : Int)).toNat) (k := (min (cN w s) (P : Int)).toNat) (by omega) (by omega)
    rw [Nat.sub_self, F_zero] at h1
    have := (ho (min (cN w s) (P : Int)).toNat (by omega)).least s hs (by omega)
    omega
theorem Cost.le {w : Wheel} (h : OkW w) {one : Nat → Int} {P : Nat} (ho : ∀ k : Nat, k ≤ P → IsOne w k (one k)) {c place bought : Int} (hc : Cost w one P c place bought) : F one (min bought P).toNat ≤ c := by
  obtain ⟨c', s, b', h1, h2, h3, h4, h5, h6⟩ := hc
  have ok := ones_ok h ho
  have hcn := cN_nn h (h1.nn h)
  have ht := F_take h ho h1
  by_cases e : (min b' (P : Int)).toNat + (min (cN w s) (P : Int)).toNat ≤ P
  · have h7 := F_sub ok (b := (min (cN w s) (P : Int)).toNat) (min b' (P : Int)).toNat e
    have h8 := F_mono ok (n := (min bought (P : Int)).toNat) (m := (min b' (P : Int)).toNat + (min (cN w s) (P : Int)).toNat) (by omega) e
    omega
  · -- the second part is cut
    have h7 := F_sub ok (b := P - (min b' (P : Int)).toNat) (min b' (P : Int)).toNat (by omega)
    have h8 := F_mono ok (n := P - (min b' (P : Int)).toNat) (m := (min (cN w s) (P : Int)).toNat) (by omega) (by omega)
    have h9 := F_mono ok (n := (min bought (P : Int)).toNat) (m := (min b' (P : Int)).toNat + (P - (min b' (P : Int)).toNat)) (by omega) (by omega)
    omega
theorem Cost.select {w : Wheel} (h : OkW w) {one : Nat → Int} {P : Nat} (ho : ∀ k : Nat, k ≤ P → IsOne w k (one k)) {c place bought : Int} (hc : Cost w one P c place bought) : Cost w one P c 0 bought := by
  have hle := hc.le h ho
  obtain ⟨c', s, b', h1, h2, h3, h4, h5, h6⟩ := hc
  have e := turn_zero h
  have := cN_nn h (h1.nn h)
  exact ⟨c, 0, bought, .zero, by omega, by rw [e], by rw [cN_zero h]; omega, by omega, hle⟩

/-! ### Points -/
structure OkPt (w : Wheel) (P : Int) (x : Point_) : Prop where
  p0 : 0 ≤ x.Stand.Place
  p1 : x.Stand.Place < w.Round
  c0 : 0 ≤ x.Stand.Credit
  c1 : x.Stand.Credit ≤ P
  b0 : 0 ≤ x.bought
  b1 : x.bought ≤ 200
def stands (x : Point_) : List Stand := x.Stand :: (if x.Stand.Credit > 0 ∧ x.Stand.Place > 0 then [⟨0, x.Stand.Credit - 1⟩] else [])
def child (w : Wheel) (P : Int) (x : Point_) (s : Stand) (k : Nat) : Point_ := ⟨⟨(turn w s.Place (coin w k)).1, min (s.Credit + (turn w s.Place (coin w k)).2) P⟩, x.bought + (turn w s.Place (coin w k)).2⟩
inductive Reach (w : Wheel) (P : Int) : Nat → Point_ → Prop
  | start : Reach w P 0 ⟨⟨0, 0⟩, 0⟩
  | step (c : Nat) (x : Point_) (s : Stand) (k : Nat) : Reach w P c x → x.bought < P → s ∈ stands x → k < w.Coins.length → Reach w P (c + (coin w k).toNat) (child w P x s k)
theorem stands_ok {w : Wheel} (h : OkW w) {P : Int} {x : Point_} (hx : OkPt w P x) {s : Stand} (hs : s ∈ stands x) : OkS w s P := by
  have := h.r1
  unfold stands at hs
  rcases List.mem_cons.1 hs with rfl | hs
  · exact ⟨hx.p0, hx.p1, hx.c0, hx.c1⟩
  · split at hs
    · rename_i q
      simp only [List.mem_singleton] at hs
      subst hs
      have := hx.c1
      exact ⟨by show (0 : Int) ≤ 0; omega, by show (0 : Int) < _; omega, by show 0 ≤ x.Stand.Credit - 1; omega, by show x.Stand.Credit - 1 ≤ _; omega⟩
    · simp at hs
theorem child_ok {w : Wheel} (h : OkW w) {P : Int} (hP : 1 ≤ P ∧ P ≤ 20) {x : Point_} (hx : OkPt w P x) (hb : x.bought < P) {s : Stand} (hs : s ∈ stands x) {k : Nat} (hk : k < w.Coins.length) : OkPt w P (child w P x s k) := by
  have ok := stands_ok h hx hs
  have hco := kcoin h hk
  have ht := turn_range h ok.p0 ok.p1 (show 0 ≤ coin w k by omega)
  have := ok.c0
  have := hx.b0
  exact ⟨ht.1.1, ht.1.2, by show 0 ≤ min _ _; omega, by show min _ _ ≤ _; omega, by show 0 ≤ x.bought + _; omega, by show x.bought + _ ≤ _; omega⟩
theorem Reach.ok {w : Wheel} (h : OkW w) {P : Int} (hP : 1 ≤ P ∧ P ≤ 20) {c : Nat} {x : Point_} (hr : Reach w P c x) : OkPt w P x := by
  have := h.r1
  induction hr with
  | start => exact ⟨by show (0 : Int) ≤ 0; omega, by show (0 : Int) < _; omega, by show (0 : Int) ≤ 0; omega, by show (0 : Int) ≤ P; omega, by show (0 : Int) ≤ 0; omega, by show (0 : Int) ≤ 200; omega⟩
  | step c x s k _ hb hs hk ih => exact child_ok h hP ih hb hs hk
theorem okPoint_of {w : Wheel} (h : OkW w) {P : Int} (hP : 1 ≤ P ∧ P ≤ 20) {x : Point_} (hx : OkPt w P x) : okPoint_ x = true := by
  have := h.r2
  obtain ⟨a, b, c, d, e, f⟩ := hx
  simp only [okPoint_, List.all_cons, List.all_nil, Bool.and_true, Bool.and_eq_true]
  exact ⟨okI_of (by omega) (by omega), okI_of (by omega) (by omega), okI_of (by omega) (by omega)⟩
/-! ### How many points there can be -/
theorem nodup_len : ∀ (n : Nat) (l : List Nat), l.Nodup → (∀ x, x ∈ l → x < n) → l.length ≤ n
  | 0, l, _, h => by
    cases l with
    | nil => simp
    | cons x l => have := h x (by simp); omega
  | n + 1, l, hd, h => by
    by_cases q : n ∈ l
    · have h1 := nodup_len n (l.erase n) (hd.erase n) (fun x hx => by
        have h2 := (List.Nodup.mem_erase_iff hd).1 hx
        have := h x h2.2
        have := h2.1
        omega)
      rw [List.length_erase_of_mem q] at h1
      omega
    · have h1 := nodup_len n l hd (fun x hx => by
        have := h x hx
        by_cases e : x = n
        · subst e; exact (q hx).elim
        · omega)
      omega
def code (x : Point_) : Nat := (x.Stand.Place + 200 * (x.Stand.Credit + 21 * x.bought)).toNat
theorem nodup_map {α β : Type} {f : α → β} : ∀ {l : List α}, l.Nodup → (∀ a, a ∈ l → ∀ b, b ∈ l → f a = f b → a = b) → (l.map f).Nodup
  | [], _, _ => by simp
  | x :: l, hd, hi => by
    rw [List.nodup_cons] at hd
    rw [List.map_cons, List.nodup_cons]
    refine ⟨fun hm => ?_, nodup_map hd.2 (fun a ha b hb => hi a (by simp [ha]) b (by simp [hb]))⟩
    obtain ⟨y, hy, he⟩ := List.mem_map.1 hm
    have := hi y (by simp [hy]) x (by simp) he
    subst this
    exact hd.1 hy
theorem points_len {w : Wheel} (h : OkW w) {P : Int} (hP : 1 ≤ P ∧ P ≤ 20) {l : List Point_} (hd : l.Nodup) (hx : ∀ x, x ∈ l → OkPt w P x ∧ x.bought < P) : l.length ≤ 84000 := by
  have hr := h.r2
  have e := nodup_len 84000 (l.map code) (nodup_map hd (fun a ha b hb he => by
    obtain ⟨a1, a2⟩ := hx a ha
    obtain ⟨b1, b2⟩ := hx b hb
    have := a1.p0; have := a1.p1; have := a1.c0; have := a1.c1; have := a1.b0
    have := b1.p0; have := b1.p1; have := b1.c0; have := b1.c1; have := b1.b0
    unfold code at he
    obtain ⟨⟨pa, ca⟩, ba⟩ := a
    obtain ⟨⟨pb, cb⟩, bb⟩ := b
    simp only at *
    have e1 : ba = bb := by omega
    have e2 : ca = cb := by omega
    have e3 : pa = pb := by omega
    rw [e1, e2, e3])) (fun y hy => by
    obtain ⟨x, hxm, rfl⟩ := List.mem_map.1 hy
    obtain ⟨a1, a2⟩ := hx x hxm
    have := a1.p0; have := a1.p1; have := a1.c0; have := a1.c1; have := a1.b0
    unfold code
    omega)
  simpa using e
/-! ### The lists of points -/
def push (C : List (List Point_)) (j : Nat) (y : Point_) : List (List Point_) := C.set j (C.getD j [] ++ [y])
theorem push_len (C : List (List Point_)) (j : Nat) (y : Point_) : (push C j y).length = C.length := by simp [push]
theorem push_getD {C : List (List Point_)} {j c : Nat} {y : Point_} (hj : j < C.length) : (push C j y).getD c [] = C.getD c [] ++ (if j = c then [y] else []) := by
  unfold push
  by_cases e : j = c
  · subst e
    rw [if_pos rfl, List.getD_eq_getElem?_getD, List.getElem?_set_self hj]
    rfl
  · rw [if_neg e, List.append_nil, List.getD_eq_getElem?_getD, List.getElem?_set_ne e, ← List.getD_eq_getElem?_getD]
def pushK (w : Wheel) (P : Int) (x : Point_) (s : Stand) (i : Nat) : Nat → Nat → List (List Point_) → List (List Point_)
  | 0, _, C => C
  | d + 1, k, C => pushK w P x s i d (k + 1) (push C (i + (coin w k).toNat) (child w P x s k))
def pushS (w : Wheel) (P : Int) (x : Point_) (i : Nat) : List Stand → List (List Point_) → List (List Point_)
  | [], C => C
  | s :: l, C => pushS w P x i l (pushK w P x s i w.Coins.length 0 C)
theorem pushK_spec {w : Wheel} (h : OkW w) {P : Int} {x : Point_} {s : Stand} {i : Nat} : ∀ (d k : Nat) (C : List (List Point_)), k + d = w.Coins.length → i + 100 < C.length →
    (pushK w P x s i d k C).length = C.length ∧ (∀ c z, z ∈ (pushK w P x s i d k C).getD c [] ↔ z ∈ C.getD c [] ∨ ∃ j, k ≤ j ∧ j < k + d ∧ c = i + (coin w j).toNat ∧ z = child w P x s j) ∧ (∀ c, c ≤ i → (pushK w P x s i d k C).getD c [] = C.getD c []) ∧
    (∀ B : Nat, (∀ c, (C.getD c []).length ≤ B) → ∀ c, ((pushK w P x s i d k C).getD c []).length ≤ B + d)
  | 0, k, C, _, _ => ⟨rfl, fun c z => ⟨.inl, fun q => q.elim id fun ⟨j, a, b, _⟩ => by omega⟩, fun c _ => rfl, fun B hB c => hB c⟩
  | d + 1, k, C, hk, hC => by
    have hco := kcoin h (show k < w.Coins.length by omega)
    have hj : i + (coin w k).toNat < C.length := by omega
    obtain ⟨h1, h2, h3, h4⟩ := pushK_spec h (P := P) (x := x) (s := s) (i := i) d (k + 1) (push C (i + (coin w k).toNat) (child w P x s k)) (by omega) (by rw [push_len]; exact hC)
    simp only [pushK]
    refine ⟨by rw [h1, push_len], fun c z => ?_, fun c hc => ?_, fun B hB c => ?_⟩
    · rw [h2, push_getD hj, List.mem_append]
      constructor
      · rintro ((q | q) | ⟨j, a, b, e⟩)
        · exact .inl q
        · split at q
          · rename_i e
            exact .inr ⟨k, by omega, by omega, e.symm, by simpa using q⟩
          · simp at q
        · exact .inr ⟨j, by omega, by omega, e⟩
      · rintro (q | ⟨j, a, b, e1, e2⟩)
        · exact .inl (.inl q)
        · by_cases e : j = k
          · subst e
            exact .inl (.inr (by rw [if_pos e1.symm]; simpa using e2))
          · exact .inr ⟨j, by omega, by omega, e1, e2⟩
    · rw [h3 c hc, push_getD hj, if_neg (by omega), List.append_nil]
    · have := h4 (B + 1) (fun c => by
        rw [push_getD hj, List.length_append]
        have := hB c
        split
        · simp only [List.length_singleton]; omega
        · simp only [List.length_nil]; omega) c
      omega
theorem pushS_spec {w : Wheel} (h : OkW w) {P : Int} {x : Point_} {i : Nat} : ∀ (l : List Stand) (C : List (List Point_)), i + 100 < C.length →
    (pushS w P x i l C).length = C.length ∧ (∀ c z, z ∈ (pushS w P x i l C).getD c [] ↔ z ∈ C.getD c [] ∨ ∃ s, s ∈ l ∧ ∃ j, j < w.Coins.length ∧ c = i + (coin w j).toNat ∧ z = child w P x s j) ∧ (∀ c, c ≤ i → (pushS w P x i l C).getD c [] = C.getD c []) ∧
    (∀ B : Nat, (∀ c, (C.getD c []).length ≤ B) → ∀ c, ((pushS w P x i l C).getD c []).length ≤ B + 4 * l.length)
  | [], C, _ => ⟨rfl, fun c z => ⟨.inl, fun q => q.elim id fun ⟨s, a, _⟩ => by simp at a⟩, fun c _ => rfl, fun B hB c => hB c⟩
  | s :: l, C, hC => by
    have h4c := h.clen
    obtain ⟨a1, a2, a3, a4⟩ := pushK_spec h (P := P) (x := x) (s := s) (i := i) w.Coins.length 0 C (by omega) hC
    obtain ⟨h1, h2, h3, h4⟩ := pushS_spec h (P := P) (x := x) (i := i) l (pushK w P x s i w.Coins.length 0 C) (by rw [a1]; exact hC)
    simp only [pushS]
    refine ⟨by rw [h1, a1], fun c z => ?_, fun c hc => by rw [h3 c hc, a3 c hc], fun B hB c => ?_⟩
    · rw [h2, a2]
      constructor
      · rintro ((q | ⟨j, _, b, e⟩) | ⟨s', a, e⟩)
        · exact .inl q
        · exact .inr ⟨s, by simp, j, by omega, e⟩
        · exact .inr ⟨s', by simp [a], e⟩
      · rintro (q | ⟨s', a, j, b, e⟩)
        · exact .inl (.inl q)
        · rcases List.mem_cons.1 a with rfl | a
          · exact .inl (.inr ⟨j, by omega, by omega, e⟩)
          · exact .inr ⟨s', a, j, b, e⟩
    · have := h4 (B + w.Coins.length) (a4 B hB) c
      simp only [List.length_cons]
      omega
theorem stands_len (x : Point_) : (stands x).length ≤ 2 := by
  unfold stands
  split <;> simp

/-! ### The loops -/
abbrev opened (w : Wheel) : (Wheel_ × Int) × Unit := ((⟨w⟩, 0), ())
theorem cheap_l4 {n : Nat} {w : Wheel} (h : OkW w) (hn : 1000 ≤ n) {P : Int} (hP : 1 ≤ P ∧ P ≤ 20) (rec3 : Int → List (List Point_) → Option (Int × Int)) {i : Nat} (hi : i ≤ 6000) {x : Point_} (hx : OkPt w P x) (v37 : Int) {s : Stand} (hs : OkS w s P) :
    ∀ (d k m : Nat) (C : List (List Point_)), k + d = w.Coins.length → d < m → i + 100 < C.length → (∃ B : Nat, (∀ c, (C.getD c []).length ≤ B) ∧ B + d ≤ 1000000) → C.length ≤ 10000 →
      coins_Cheapest_l4 n rec3 w P (opened w) i x v37 s m (k : Int) C = coins_Cheapest_j6 rec3 v37 (pushK w P x s i d k C) := by
  intro d
  induction d with
  | zero =>
    intro k m C hk hm hC hB hC2
    obtain ⟨m, rfl⟩ : ∃ q, m = q + 1 := ⟨m - 1, by omega⟩
    simp only [coins_Cheapest_l4, coins_Cheapest_l4_b, pushK]
    rw [if_neg (by simp; omega)]
  | succ d ih =>
    intro k m C hk hm hC hB hC2
    obtain ⟨m, rfl⟩ : ∃ q, m = q + 1 := ⟨m - 1, by omega⟩
    obtain ⟨B, hB, hB2⟩ := hB
    have hkl : k < w.Coins.length := by omega
    have hco := kcoin h hkl
    have h4 := h.clen
    have ht := turn_range h hs.p0 hs.p1 (show 0 ≤ coin w k by omega)
    have hx0 := hx.b0
    have hx1 := hx.b1
    have hs0 := hs.c0
    have hs1 := hs.c1
    have hj : i + (coin w k).toNat < C.length := by omega
    have e1 : w64 ((i : Int) + coin w k) = ((i + (coin w k).toNat : Nat) : Int) := by rw [w64_id (by omega) (by omega)]; omega
    have hl := hB (i + (coin w k).toNat)
    have eg : C[i + (coin w k).toNat] = C.getD (i + (coin w k).toNat) [] := by simp [hj]
    have hact : (actS w s (k : Int)).1 = ⟨(turn w s.Place (coin w k)).1, s.Credit + (turn w s.Place (coin w k)).2⟩ := by
      unfold actS
      rw [if_pos (by omega)]
    simp only [coins_Cheapest_l4, coins_Cheapest_l4_b, pushK]
    rw [if_pos (by simp; omega), coin_idx (by omega) (by omega), bnd_some, act_eq h (by omega) hs (by omega) (okAct_k hkl), bnd_some, hact, e1, idx_nat hj, bnd_some, eg, app_ok (by simp only [List.length_singleton]; omega), bnd_some, bnd_some, w64_id (x := _ - s.Credit) (by simp only; omega) (by simp only; omega), w64_id (x := x.bought + _) (by simp only; omega) (by simp only; omega), Int.toNat_natCast, w64_id (x := (k : Int) + 1) (by omega) (by omega)]
    have hrec := ih (k + 1) m (push C (i + (coin w k).toNat) (child w P x s k)) (by omega) (by omega) (by rw [push_len]; exact hC) ⟨B + 1, fun c => by
      rw [push_getD hj, List.length_append]
      have := hB c
      split
      · simp only [List.length_singleton]; omega
      · simp only [List.length_nil]; omega, by omega⟩ (by rw [push_len]; exact hC2)
    rw [show (((k + 1 : Nat)) : Int) = (k : Int) + 1 by simp] at hrec
    rw [← hrec]
    unfold push child
    congr 4
    simp only
    congr 1
    omega
theorem cheap_l3 {n : Nat} {w : Wheel} (h : OkW w) (hn : 1000 ≤ n) {P : Int} (hP : 1 ≤ P ∧ P ≤ 20) (rec2 : Int → List (Point_ × Int) → List (List Point_) → Option (Int × Int)) {i : Nat} (hi : i ≤ 6000) {x : Point_} (hx : OkPt w P x) (v23 : Int) (M : List (Point_ × Int)) (x31 : Int)
    (l : List Stand) (hl : l.length ≤ 2) (hs : ∀ s, s ∈ l → OkS w s P) (C : List (List Point_)) (hC : i + 100 < C.length) (hB : ∀ c, (C.getD c []).length ≤ 900000) (hC2 : C.length ≤ 10000) :
    coins_Cheapest_l3 n rec2 w P (opened w) i v23 M x x31 l n 0 C = coins_Cheapest_j4 rec2 v23 (mset M x (w64 (x31 + 1))) (pushS w P x i l C) := by
  have h4 := h.clen
  have key := loopI (F := fun m j (C : List (List Point_)) => coins_Cheapest_l3 n rec2 w P (opened w) i v23 M x x31 l m j C) (xs := l) (spec := fun k C => coins_Cheapest_j4 rec2 v23 (mset M x (w64 (x31 + 1))) (pushS w P x i k C))
    (I := fun k C => i + 100 < C.length ∧ C.length ≤ 10000 ∧ (∀ c, (C.getD c []).length ≤ 900100 - 10 * k.length) ∧ k.length ≤ 2 ∧ ∀ s, s ∈ k → OkS w s P) (by omega)
    (fun m C hI => by simp [coins_Cheapest_l3, coins_Cheapest_l3_b, pushS])
    (fun m j s k C hI hx' hj _ _ hrec => by
      obtain ⟨i1, i2, i3, i4, i5⟩ := hI
      simp only [List.length_cons] at i3 i4
      obtain ⟨a1, a2, a3, a4⟩ := pushK_spec h (P := P) (x := x) (s := s) (i := i) w.Coins.length 0 C (by omega) i1
      simp only [coins_Cheapest_l3, coins_Cheapest_l3_b, pushS]
      rw [if_pos (by simpa using hj), hx', bnd_some]
      have h4' := cheap_l4 h hn hP (coins_Cheapest_l3 n rec2 w P (opened w) i v23 M x x31 l m) hi hx (j : Int) (i5 s (by simp)) w.Coins.length 0 n C (by omega) (by omega) i1 ⟨_, i3, by omega⟩ i2
      rw [show ((0 : Nat) : Int) = 0 from rfl] at h4'
      rw [h4']
      unfold coins_Cheapest_j6
      exact hrec _ ⟨by rw [a1]; exact i1, by rw [a1]; exact i2, fun c => by have := a4 _ i3 c; omega, by omega, fun s' hs' => i5 s' (by simp [hs'])⟩)
    l 0 n C (by omega) rfl (by omega) ⟨hC, hC2, fun c => by have := hB c; omega, hl, hs⟩
  exact key
/-- The children of a point are there. -/
def Kids (w : Wheel) (P : Int) (C : List (List Point_)) (c0 : Nat) (x : Point_) : Prop := ∀ s, s ∈ stands x → ∀ k, k < w.Coins.length → child w P x s k ∈ C.getD (c0 + (coin w k).toNat) []
/-- What stands while the points of so many cents are looked at. -/
structure Lv (w : Wheel) (P : Int) (i : Nat) (T : Int) (M : List (Point_ × Int)) (C : List (List Point_)) : Prop where
  nd : (M.map (·.1)).Nodup
  key : ∀ x, x ∈ M.map (·.1) → OkPt w P x ∧ x.bought < P ∧ ∃ c0, c0 ≤ i ∧ Kids w P C c0 x
  cnt : ∀ x, mhas M x = true → 1 ≤ mget M x ∧ mget M x ≤ T
  rch : ∀ c x, x ∈ C.getD c [] → Reach w P c x
  fst : (⟨⟨0, 0⟩, 0⟩ : Point_) ∈ C.getD 0 []
  siz : ∀ c, (C.getD c []).length ≤ 1 + 8 * M.length
  done : ∀ c, c < i → ∀ x, x ∈ C.getD c [] → x.bought < P ∧ ∃ c0, c0 ≤ c ∧ Kids w P C c0 x
theorem Lv.small {w : Wheel} (h : OkW w) {P : Int} (hP : 1 ≤ P ∧ P ≤ 20) {i : Nat} {T : Int} {M : List (Point_ × Int)} {C : List (List Point_)} (hI : Lv w P i T M C) : M.length ≤ 84000 := by
  have := points_len h hP hI.nd (fun x hx => ⟨(hI.key x hx).1, (hI.key x hx).2.1⟩)
  simpa using this
theorem mset_len {κ : Type} [DecidableEq κ] {M : List (κ × Int)} {k : κ} {v : Int} : (mset M k v).length = M.length + (if mhas M k = true then 0 else 1) := by
  have e := congrArg List.length (mset_keys (M := M) (k := k) (v := v))
  rw [List.length_map] at e
  rw [e]
  split <;> simp
theorem cheap_l2 {n : Nat} {w : Wheel} (h : OkW w) (hn : 1000000 ≤ n) {P : Int} (hP : 1 ≤ P ∧ P ≤ 20) (rec1 : Int → List (Point_ × Int) → List (List Point_) → Option (Int × Int)) {i : Nat} (hi : i ≤ 6000) (X : List Point_) (hX : X.length ≤ 900000) :
    ∀ (k pre : List Point_) (m : Nat) (T : Int) (M : List (Point_ × Int)) (C : List (List Point_)), X = pre ++ k → k.length < m → 0 ≤ T → T + k.length ≤ 1099511627776 → Lv w P i T M C → C.length = i + 101 → C.getD i [] = X → (∀ x, x ∈ pre → x ∈ M.map (·.1)) →
      ((∃ x, x ∈ k ∧ P ≤ x.bought) ∧ coins_Cheapest_l2 n rec1 w P (opened w) i X m (pre.length : Int) M C = some ((i : Int), 0)) ∨
      (∃ M' C', coins_Cheapest_l2 n rec1 w P (opened w) i X m (pre.length : Int) M C = coins_Cheapest_j2 rec1 i M' C' ∧ Lv w P i (T + k.length) M' C' ∧ C'.length = i + 101 ∧ C'.getD i [] = X ∧ ∀ x, x ∈ X → x ∈ M'.map (·.1)) := by
  intro k
  induction k with
  | nil =>
    intro pre m T M C hx hm hT hT2 hI hC hCi hp
    obtain ⟨m, rfl⟩ : ∃ q, m = q + 1 := ⟨m - 1, by omega⟩
    refine .inr ⟨M, C, ?_, by simpa using hI, hC, hCi, fun x hxx => hp x (by rw [hx] at hxx; simpa using hxx)⟩
    simp only [coins_Cheapest_l2, coins_Cheapest_l2_b]
    rw [if_neg (by rw [hx]; simp)]
  | cons x k ih =>
    intro pre m T M C hx hm hT hT2 hI hC hCi hp
    obtain ⟨m, rfl⟩ : ∃ q, m = q + 1 := ⟨m - 1, by omega⟩
    simp only [List.length_cons] at hm hT2
    have hxl : X.length = pre.length + (k.length + 1) := by rw [hx]; simp
    have hxX : x ∈ X := by rw [hx]; simp
    have hreach := hI.rch i x (by rw [hCi]; exact hxX)
    have okx := hreach.ok h hP
    have hsm := hI.small h hP
    simp only [coins_Cheapest_l2, coins_Cheapest_l2_b]
    rw [if_pos (by simp; omega), show idx X (pre.length : Int) = some x by rw [hx, idx_mid], bnd_some]
    by_cases hb : P ≤ x.bought
    · rw [if_pos (by simpa using hb)]
      exact .inl ⟨⟨x, by simp, hb⟩, rfl⟩
    · rw [if_neg (by simpa using hb)]
      have hmok : ∀ M' : List (Point_ × Int), (M'.map (·.1)).Nodup → (∀ y, y ∈ M'.map (·.1) → y = x ∨ y ∈ M.map (·.1)) → mok okPoint_ M' x = true := by
        intro M' hnd hall
        unfold Go.AM.mok
        rw [okPoint_of h hP okx, show M'.all (fun p => okPoint_ p.1) = true from List.all_eq_true.2 fun e he => ?_, show decide ((M'.map (·.1)).Nodup) = true by simpa using hnd]
        · rfl
        · rcases hall e.1 (List.mem_map_of_mem (f := (·.1)) he) with q | q
          · rw [q]; exact okPoint_of h hP okx
          · exact okPoint_of h hP (hI.key _ q).1
      have l1 : mlook okPoint_ M x = some (mget M x) := if_pos (hmok M hI.nd fun y hy => .inr hy)
      have hw : w64 (mget M x + 1) = mget M x + 1 := by
        cases hh : mhas M x with
        | true =>
          have := hI.cnt x hh
          exact w64_id (by omega) (by omega)
        | false => rw [mget_no hh]; rfl
      have l2 : mlook okPoint_ (mset M x (mget M x + 1)) x = some (mget M x + 1) := by
        have : mok okPoint_ (mset M x (mget M x + 1)) x = true := hmok _ (mset_nodup hI.nd) fun y hy => by
          rw [mset_keys] at hy
          split at hy
          · exact .inr hy
          · rcases List.mem_append.1 hy with q | q
            · exact .inr q
            · exact .inl (by simpa using q)
        unfold mlook
        rw [if_pos this, mget_set, if_pos rfl]
      rw [l1, bnd_some, bnd_some, hw, l2, bnd_some]
      have keysub : ∀ y, y ∈ M.map (·.1) → y ∈ (mset M x (mget M x + 1)).map (·.1) := fun y hy => by
        rw [mset_keys]
        split
        · exact hy
        · exact List.mem_append_left _ hy
      have keyx : x ∈ (mset M x (mget M x + 1)).map (·.1) := by
        rw [← mhas_iff, mhas_set]
        exact .inl rfl
      have cnt' : ∀ y, mhas (mset M x (mget M x + 1)) y = true → 1 ≤ mget (mset M x (mget M x + 1)) y ∧ mget (mset M x (mget M x + 1)) y ≤ T + 1 := fun y hy => by
        rw [mget_set]
        by_cases e : x = y
        · rw [if_pos e]
          cases hh : mhas M x with
          | true => have := hI.cnt x hh; omega
          | false => rw [mget_no hh]; omega
        · rw [if_neg e]
          have := hI.cnt y ((mhas_set.1 hy).resolve_left (fun q => e q.symm))
          omega
      have epre : ((pre ++ [x]).length : Int) = (pre.length : Int) + 1 := by simp
      have next := fun C' (hI' : Lv w P i (T + 1) (mset M x (mget M x + 1)) C') (hC' : C'.length = i + 101) (hCi' : C'.getD i [] = X) => ih (pre ++ [x]) m (T + 1) (mset M x (mget M x + 1)) C' (by rw [hx]; simp) (by omega) (by omega) (by omega) hI' hC' hCi' (fun y hy => by
        rcases List.mem_append.1 hy with q | q
        · exact keysub y (hp y q)
        · simp only [List.mem_singleton] at q
          subst q
          exact keyx)
      have wrap : ∀ (C' : List (List Point_)) (res : Option (Int × Int)), res = coins_Cheapest_l2 n rec1 w P (opened w) i X m ((pre.length : Int) + 1) (mset M x (mget M x + 1)) C' → Lv w P i (T + 1) (mset M x (mget M x + 1)) C' → C'.length = i + 101 → C'.getD i [] = X →
          ((∃ y, y ∈ x :: k ∧ P ≤ y.bought) ∧ res = some ((i : Int), 0)) ∨ (∃ M' C'', res = coins_Cheapest_j2 rec1 i M' C'' ∧ Lv w P i (T + ((k.length + 1 : Nat) : Int)) M' C'' ∧ C''.length = i + 101 ∧ C''.getD i [] = X ∧ ∀ y, y ∈ X → y ∈ M'.map (·.1)) := by
        intro C' res hres hI' hC' hCi'
        rw [hres, ← epre]
        rcases next C' hI' hC' hCi' with ⟨⟨y, a, b⟩, e⟩ | ⟨M', C'', a, b, c⟩
        · exact .inl ⟨⟨y, by simp [a], b⟩, e⟩
        · exact .inr ⟨M', C'', a, by rw [show T + ((k.length + 1 : Nat) : Int) = T + 1 + (k.length : Int) by simp; omega]; exact b, c⟩
      cases hh : mhas M x with
      | true =>
        have hc := hI.cnt x hh
        rw [if_pos (by simp; omega)]
        unfold coins_Cheapest_j4
        rw [w64_id (x := (pre.length : Int) + 1) (by omega) (by omega)]
        refine wrap C _ rfl ⟨mset_nodup hI.nd, fun y hy => ?_, cnt', hI.rch, hI.fst, fun c => by rw [mset_len]; have := hI.siz c; omega, hI.done⟩ hC hCi
        rw [mset_keys, if_pos hh] at hy
        exact hI.key y hy
      | false =>
        have hg : mget M x = 0 := mget_no hh
        rw [if_neg (by rw [hg]; simp)]
        obtain ⟨a1, a2, a3, a4⟩ := pushS_spec h (P := P) (x := x) (i := i) (stands x) C (by omega)
        have hst : ∀ s, s ∈ stands x → OkS w s P := fun s hs => stands_ok h okx hs
        have hsl := stands_len x
        have hfin := cheap_l3 h (show 1000 ≤ n by omega) hP (coins_Cheapest_l2 n rec1 w P (opened w) i X m) hi okx (pre.length : Int) M (mget M x) (stands x) hsl hst C (by omega) (fun c => by have := hI.siz c; omega) (by omega)
        rw [hw] at hfin
        have htake : (if decide (x.Stand.Credit > 0) = true then coins_Cheapest_j7 n (coins_Cheapest_l2 n rec1 w P (opened w) i X m) w P (opened w) i (pre.length : Int) M C x (mget M x) (decide (x.Stand.Place > 0)) else coins_Cheapest_j7 n (coins_Cheapest_l2 n rec1 w P (opened w) i X m) w P (opened w) i (pre.length : Int) M C x (mget M x) false) =
            coins_Cheapest_l3 n (coins_Cheapest_l2 n rec1 w P (opened w) i X m) w P (opened w) i (pre.length : Int) M x (mget M x) (stands x) n 0 C := by
          have hone : ¬ (x.Stand.Credit > 0 ∧ x.Stand.Place > 0) → coins_Cheapest_j7 n (coins_Cheapest_l2 n rec1 w P (opened w) i X m) w P (opened w) i (pre.length : Int) M C x (mget M x) false = coins_Cheapest_l3 n (coins_Cheapest_l2 n rec1 w P (opened w) i X m) w P (opened w) i (pre.length : Int) M x (mget M x) (stands x) n 0 C := by
            intro q
            unfold coins_Cheapest_j7 coins_Cheapest_j5 stands
            rw [if_neg (by simp), if_neg q]
          by_cases e1 : x.Stand.Credit > 0
          · rw [if_pos (by simpa using e1)]
            by_cases e2 : x.Stand.Place > 0
            · rw [show decide (x.Stand.Place > 0) = true by simpa using e2]
              have hact : (actS w x.Stand (-1)).1 = ⟨0, x.Stand.Credit - 1⟩ := by
                unfold actS
                rw [if_neg (by omega), if_neg (by omega)]
              unfold coins_Cheapest_j7 coins_Cheapest_j5 stands
              rw [if_pos rfl, if_pos ⟨e1, e2⟩]
              show Option.bind (coins_wheel_act n ⟨w⟩ x.Stand (-1)) _ = _
              rw [act_eq h (by omega) ⟨okx.p0, okx.p1, okx.c0, okx.c1⟩ (by omega) okAct_s, bnd_some, hact, app_ok (by simp), bnd_some]
              rfl
            · rw [show decide (x.Stand.Place > 0) = false by simpa using e2]
              exact hone (fun q => e2 q.2)
          · rw [if_neg (by simpa using e1)]
            exact hone (fun q => e1 q.1)
        rw [htake, hfin]
        unfold coins_Cheapest_j4
        rw [w64_id (x := (pre.length : Int) + 1) (by omega) (by omega)]
        have kidmono : ∀ c0 y, Kids w P C c0 y → Kids w P (pushS w P x i (stands x) C) c0 y := fun c0 y hk s hs j hj => (a2 _ _).2 (.inl (hk s hs j hj))
        refine wrap (pushS w P x i (stands x) C) _ rfl ⟨mset_nodup hI.nd, fun y hy => ?_, cnt', fun c z hz => ?_, ?_, fun c => ?_, fun c hc y hy => ?_⟩ (by rw [a1, hC]) (by rw [a3 i (by omega)]; exact hCi)
        · rw [mset_keys, if_neg (by simp [hh])] at hy
          rcases List.mem_append.1 hy with q | q
          · obtain ⟨b1, b2, c0, b3, b4⟩ := hI.key y q
            exact ⟨b1, b2, c0, b3, kidmono c0 y b4⟩
          · simp only [List.mem_singleton] at q
            subst q
            exact ⟨okx, by omega, i, by omega, fun s hs j hj => (a2 _ _).2 (.inr ⟨s, hs, j, hj, rfl, rfl⟩)⟩
        · rcases (a2 c z).1 hz with q | ⟨s, hs, j, hj, e1, e2⟩
          · exact hI.rch c z q
          · rw [e1, e2]
            exact .step i x s j hreach (by omega) hs hj
        · rw [a3 0 (by omega)]
          exact hI.fst
        · have hb2 := a4 (1 + 8 * M.length) hI.siz c
          rw [mset_len, if_neg (by simp [hh])]
          omega
        · rw [a3 c (by omega)] at hy
          obtain ⟨b1, c0, b2, b3⟩ := hI.done c hc y hy
          exact ⟨b1, c0, b2, kidmono c0 y b3⟩
theorem cheap_l5 {n : Nat} (rec1 : Int → List (Point_ × Int) → List (List Point_) → Option (Int × Int)) (w : Wheel) (P : Int) {i : Nat} (hi : i ≤ 6000) (M : List (Point_ × Int)) : ∀ (d m : Nat) (C : List (List Point_)), C.length + d = i + 101 → d < m →
    coins_Cheapest_l5 n rec1 w P (opened w) i M m C = coins_Cheapest_j3 n rec1 w P (opened w) i M (C ++ List.replicate d []) := by
  intro d
  induction d with
  | zero =>
    intro m C hC hm
    obtain ⟨m, rfl⟩ : ∃ q, m = q + 1 := ⟨m - 1, by omega⟩
    simp only [coins_Cheapest_l5, coins_Cheapest_l5_b]
    rw [w64_id (by omega) (by omega), if_neg (by simp; omega)]
    simp
  | succ d ih =>
    intro m C hC hm
    obtain ⟨m, rfl⟩ : ∃ q, m = q + 1 := ⟨m - 1, by omega⟩
    simp only [coins_Cheapest_l5, coins_Cheapest_l5_b]
    rw [w64_id (by omega) (by omega), if_pos (by simp; omega), app_ok (by simp; omega), bnd_some, ih m (C ++ [[]]) (by simp; omega) (by omega), List.replicate_succ]
    simp
theorem rep_getD (C : List (List Point_)) (d c : Nat) : (C ++ List.replicate d ([] : List Point_)).getD c [] = C.getD c [] := by
  rw [List.getD_eq_getElem?_getD, List.getD_eq_getElem?_getD]
  by_cases e : c < C.length
  · rw [List.getElem?_append_left e]
  · rw [List.getElem?_append_right (by omega), List.getElem?_replicate, List.getElem?_eq_none (by omega)]
    split <;> rfl
theorem Lv.reach {w : Wheel} (h : OkW w) {P : Int} {i : Nat} {T : Int} {M : List (Point_ × Int)} {C : List (List Point_)} (hI : Lv w P i T M C) {c : Nat} {x : Point_} (hr : Reach w P c x) (hc : c ≤ i) : ∃ c0, c0 ≤ c ∧ x ∈ C.getD c0 [] := by
  induction hr with
  | start => exact ⟨0, by omega, hI.fst⟩
  | step c x s k hx hb hs hk ih =>
    have hco := kcoin h hk
    obtain ⟨c0, h1, h2⟩ := ih (by omega)
    obtain ⟨_, c1, h3, h4⟩ := hI.done c0 (by omega) x h2
    exact ⟨c1 + (coin w k).toNat, by omega, h4 s hs k hk⟩
theorem Lv.cheap {w : Wheel} (h : OkW w) {P : Int} {i : Nat} {T : Int} {M : List (Point_ × Int)} {C : List (List Point_)} (hI : Lv w P i T M C) {c : Nat} {x : Point_} (hr : Reach w P c x) (hb : P ≤ x.bought) : i ≤ c := by
  rcases Nat.lt_or_ge c i with q | q
  · obtain ⟨c0, h1, h2⟩ := hI.reach h hr (by omega)
    have := (hI.done c0 (by omega) x h2).1
    omega
  · exact q
theorem cheap_l1 {n : Nat} {w : Wheel} (h : OkW w) (hn : 1000000 ≤ n) {P : Int} (hP : 1 ≤ P ∧ P ≤ 20) {cm : Nat} {xm : Point_} (hr : Reach w P cm xm) (hb : P ≤ xm.bought) (hcm : cm ≤ 5000) :
    ∀ (d i m : Nat) (T : Int) (M : List (Point_ × Int)) (C : List (List Point_)), i + d = cm + 1 → d < m → 0 ≤ T → T ≤ 2097152 * i → Lv w P i T M C → C.length ≤ i + 101 →
      ∃ r : Nat, coins_Cheapest_l1 n w P (opened w) m (i : Int) M C = some ((r : Int), 0) ∧ (∃ x, Reach w P r x ∧ P ≤ x.bought) ∧ ∀ c x, Reach w P c x → P ≤ x.bought → r ≤ c := by
  intro d
  induction d with
  | zero =>
    intro i m T M C hi hm hT hT2 hI hC
    have := hI.cheap h hr hb
    omega
  | succ d ih =>
    intro i m T M C hi hm hT hT2 hI hC
    obtain ⟨m, rfl⟩ : ∃ q, m = q + 1 := ⟨m - 1, by omega⟩
    have hsm := hI.small h hP
    obtain ⟨e, he⟩ : ∃ e, C.length + e = i + 101 := ⟨i + 101 - C.length, by omega⟩
    simp only [coins_Cheapest_l1, coins_Cheapest_l1_b]
    rw [cheap_l5 _ w P (show i ≤ 6000 by omega) M e n C he (by omega)]
    unfold coins_Cheapest_j3
    have hlen : (C ++ List.replicate e ([] : List Point_)).length = i + 101 := by simp; omega
    have hI' : Lv w P i T M (C ++ List.replicate e []) := by
      refine ⟨hI.nd, fun x hx => ?_, hI.cnt, fun c x hx => ?_, ?_, fun c => ?_, fun c hc x hx => ?_⟩
      · obtain ⟨a, b, c0, c1, c2⟩ := hI.key x hx
        exact ⟨a, b, c0, c1, fun s hs k hk => by rw [rep_getD]; exact c2 s hs k hk⟩
      · rw [rep_getD] at hx; exact hI.rch c x hx
      · rw [rep_getD]; exact hI.fst
      · rw [rep_getD]; exact hI.siz c
      · rw [rep_getD] at hx
        obtain ⟨a, c0, c1, c2⟩ := hI.done c hc x hx
        exact ⟨a, c0, c1, fun s hs k hk => by rw [rep_getD]; exact c2 s hs k hk⟩
    generalize C ++ List.replicate e [] = C1 at hlen hI' ⊢
    have hil : i < C1.length := by omega
    have eg : C1[i] = C1.getD i [] := by simp [hil]
    have hXl := hI'.siz i
    rw [idx_nat hil, bnd_some, eg]
    rcases cheap_l2 h hn hP (coins_Cheapest_l1 n w P (opened w) m) (show i ≤ 6000 by omega) (C1.getD i []) (by omega) (C1.getD i []) [] n T M C1 rfl (by omega) hT (by omega) hI' hlen rfl (fun x hx => by simp at hx) with ⟨⟨x, a, b⟩, c⟩ | ⟨M', C', a, b, c1, c2, c3⟩
    · exact ⟨i, c, ⟨x, hI'.rch i x a, b⟩, fun c x hr' hb' => hI'.cheap h hr' hb'⟩
    · rw [show ((([] : List Point_).length : Nat) : Int) = 0 from rfl] at a
      rw [a]
      unfold coins_Cheapest_j2
      rw [w64_id (by omega) (by omega), show (i : Int) + 1 = ((i + 1 : Nat) : Int) by simp]
      refine ih (i + 1) m (T + (C1.getD i []).length) M' C' (by omega) (by omega) (by omega) (by omega) ⟨b.nd, fun x hx => ?_, b.cnt, b.rch, b.fst, b.siz, fun c hc x hx => ?_⟩ (by omega)
      · obtain ⟨q1, q2, c0, q3, q4⟩ := b.key x hx
        exact ⟨q1, q2, c0, by omega, q4⟩
      · by_cases e : c = i
        · subst e
          rw [c2] at hx
          obtain ⟨q1, q2, c0, q3, q4⟩ := b.key x (c3 x hx)
          exact ⟨q2, c0, q3, q4⟩
        · exact b.done c (by omega) x hx

theorem Reach.cost {w : Wheel} (h : OkW w) {one : Nat → Int} {P : Nat} (ho : ∀ k : Nat, k ≤ P → IsOne w k (one k)) {c : Nat} {x : Point_} (hr : Reach w P c x) : Cost w one P c x.Stand.Place x.bought := by
  induction hr with
  | start => exact Cost.start h
  | step c x s k _ hb hs hk ih =>
    have hco := kcoin h hk
    rw [show (((c + (coin w k).toNat : Nat)) : Int) = (c : Int) + coin w k by omega]
    unfold stands at hs
    rcases List.mem_cons.1 hs with rfl | hs
    · exact ih.coin h hk
    · split at hs
      · simp only [List.mem_singleton] at hs
        subst hs
        exact (ih.select h ho).coin h hk
      · simp at hs
theorem seg {w : Wheel} (h : OkW w) {P : Int} (hP : 1 ≤ P ∧ P ≤ 20) {c : Nat} {x : Point_} (hr : Reach w P c x) (hst : x.Stand.Place = 0 ∨ x.Stand.Credit > 0) (hb : x.bought < P) {s : Int} (hs : Rep w s) :
    s = 0 ∨ (∃ (c' : Nat) (x' : Point_), (c' : Int) ≤ c + s ∧ Reach w P c' x' ∧ P ≤ x'.bought) ∨
      (∃ (c' : Nat) (x' : Point_), (c' : Int) = c + s ∧ Reach w P c' x' ∧ x'.Stand.Place = (turn w 0 s).1 ∧ x'.bought = x.bought + cN w s ∧ (1 ≤ cN w s → 1 ≤ x'.Stand.Credit)) := by
  have okx := hr.ok h hP
  induction hs with
  | zero => exact .inl rfl
  | add s k hs hk ih =>
    have hco := kcoin h hk
    have hs0 := hs.nn h
    obtain ⟨a1, a2⟩ := cN_add h hs0 (show 0 ≤ coin w k by omega)
    refine .inr ?_
    by_cases e0 : s = 0
    · subst e0
      have first : ∃ s0, s0 ∈ stands x ∧ s0.Place = 0 ∧ 0 ≤ s0.Credit := by
        by_cases q : x.Stand.Place = 0
        · exact ⟨x.Stand, by simp [stands], q, okx.c0⟩
        · have h0 := okx.p0
          have hc := hst.resolve_left q
          refine ⟨⟨0, x.Stand.Credit - 1⟩, ?_, rfl, by show 0 ≤ x.Stand.Credit - 1; omega⟩
          unfold stands
          rw [if_pos ⟨hc, by omega⟩]
          simp
      obtain ⟨s0, q1, q2, q3⟩ := first
      have hstep := Reach.step c x s0 k hr hb q1 hk
      refine .inr ⟨_, _, by omega, hstep, ?_, ?_, ?_⟩
      · show (turn w s0.Place (coin w k)).1 = _
        rw [q2, Int.zero_add]
      · show x.bought + (turn w s0.Place (coin w k)).2 = _
        rw [q2, Int.zero_add]
        rfl
      · intro q
        rw [Int.zero_add] at q
        show 1 ≤ min (s0.Credit + (turn w s0.Place (coin w k)).2) P
        rw [q2]
        have : cN w (coin w k) = (turn w 0 (coin w k)).2 := rfl
        omega
    · rcases ih.resolve_left e0 with ⟨c', x', b1, b2, b3⟩ | ⟨c', x', b1, b2, b3, b4, b5⟩
      · exact .inl ⟨c', x', by omega, b2, b3⟩
      · by_cases q : P ≤ x'.bought
        · exact .inl ⟨c', x', by omega, b2, q⟩
        · have ok' := b2.ok h hP
          have ht := turn_range h ok'.p0 ok'.p1 (show 0 ≤ coin w k by omega)
          have hstep := Reach.step c' x' x'.Stand k b2 (by omega) (by simp [stands]) hk
          have hcn := cN_nn h hs0
          refine .inr ⟨_, _, by omega, hstep, ?_, ?_, ?_⟩
          · show (turn w x'.Stand.Place (coin w k)).1 = _
            rw [b3, a2]
          · show x'.bought + (turn w x'.Stand.Place (coin w k)).2 = _
            rw [b4, a1, b3]
            omega
          · intro q'
            show 1 ≤ min (x'.Stand.Credit + (turn w x'.Stand.Place (coin w k)).2) P
            rw [a1, ← b3] at q'
            have := ok'.c0
            by_cases q2 : 1 ≤ cN w s
            · have := b5 q2
              omega
            · omega
theorem upper {w : Wheel} (h : OkW w) {one : Nat → Int} {P : Nat} (hP : 1 ≤ P ∧ P ≤ 20) (ho : ∀ k : Nat, k ≤ P → IsOne w k (one k)) : ∀ (n : Nat), n ≤ P → ∀ (c : Nat) (x : Point_), Reach w P c x → (x.Stand.Place = 0 ∨ x.Stand.Credit > 0) → (P : Int) ≤ x.bought + n →
    ∃ (c' : Nat) (x' : Point_), (c' : Int) ≤ c + F one n ∧ Reach w P c' x' ∧ (P : Int) ≤ x'.bought := by
  intro n
  induction n using Nat.strongRecOn with
  | ind n ih =>
    intro hn c x hr hst hb
    have ok := ones_ok h ho
    by_cases q : (P : Int) ≤ x.bought
    · have := F_nn ok n hn
      exact ⟨c, x, by omega, hr, q⟩
    · have hn0 : 1 ≤ n := by omega
      obtain ⟨k, k1, k2, k3⟩ := F_eq one hn0
      have hone := ho k (by omega)
      have hpos := hone.pos h (by omega)
      rcases seg h (P := (P : Int)) (by omega) hr hst (by omega) hone.rep with e | ⟨c', x', b1, b2, b3⟩ | ⟨c', x', b1, b2, b3, b4, b5⟩
      · omega
      · have := F_nn ok (n - k) (by omega)
        exact ⟨c', x', by omega, b2, b3⟩
      · have hc := hone.cnt
        obtain ⟨c2, x2, d1, d2, d3⟩ := ih (n - k) (by omega) (by omega) c' x' b2 (.inr (by have := b5 (by omega); omega)) (by omega)
        exact ⟨c2, x2, by omega, d2, d3⟩
theorem one_small {w : Wheel} (h : OkW w) (hc : w.Coins.length ≠ 0) (hn : w.Notches.length ≠ 0) {k : Nat} (hk : k ≤ 20) {s : Int} (hs : IsOne w k s) : s ≤ 4099 := by
  obtain ⟨t, h1, h2, h3⟩ := one_some h hc hn hk
  have := hs.least t h1 h2
  omega
theorem F_small {w : Wheel} (h : OkW w) (hc : w.Coins.length ≠ 0) (hn : w.Notches.length ≠ 0) {one : Nat → Int} {P : Nat} (hP : P ≤ 20) (ho : ∀ k : Nat, k ≤ P → IsOne w k (one k)) {n : Nat} (hn2 : n ≤ P) : 0 ≤ F one n ∧ F one n ≤ 4099 := by
  have ok := ones_ok h ho
  refine ⟨F_nn ok n hn2, ?_⟩
  by_cases e : n = 0
  · subst e; rw [F_zero]; omega
  · have h1 := F_le one (n := n) (k := n) (by omega) (by omega)
    rw [Nat.sub_self, F_zero] at h1
    have := one_small h hc hn (by omega) (ho n hn2)
    omega
theorem Cheapest_eq {n : Nat} {w : Wheel} (hl : okLen n w) (hv : valid w = true) (hn : 1000000 ≤ n) (hc : w.Coins.length ≠ 0) (hno : w.Notches.length ≠ 0) {P : Nat} (hP : 1 ≤ P ∧ P ≤ 20) {one : Nat → Int} (ho : ∀ k : Nat, k ≤ P → IsOne w k (one k)) :
    coins_Cheapest n w P = some (F one P, 0) := by
  have h := valid_ok hv
  unfold coins_Cheapest
  have hin : inR (P : Int) 1 20 = true := inR_iff.2 (by omega)
  rw [open_eq hl _ true (fun _ => by
    show (coins_Cheapest_c1 ⟨w⟩ (P : Int)).map (fun y => (y, ())) = _
    unfold coins_Cheapest_c1
    rw [within_eq, bnd_some, hin]
    rfl), bnd_some, hv]
  simp only [cond_true, bne_self_eq_false, Bool.false_eq_true, if_false]
  rw [if_neg (by simpa using hc), show ((w.Notches.length : Int) == 0) = false by simpa using hno]
  unfold coins_Cheapest_j1
  rw [if_neg (by simp)]
  obtain ⟨cm, xm, m1, m2, m3⟩ := upper h hP ho P (by omega) 0 ⟨⟨0, 0⟩, 0⟩ .start (.inl rfl) (by show (P : Int) ≤ 0 + P; omega)
  have hF := F_small h hc hno hP.2 ho (n := P) (by omega)
  have start : Lv w P 0 0 [] [[⟨⟨0, 0⟩, 0⟩]] := by
    refine ⟨by simp, fun x hx => by simp at hx, fun x hx => by simp [mhas] at hx, fun c x hx => ?_, by simp, fun c => ?_, fun c hc => by omega⟩
    · cases c with
      | zero =>
        simp at hx
        subst hx
        exact .start
      | succ c => simp at hx
    · cases c with
      | zero => simp
      | succ c => simp
  obtain ⟨r, r1, ⟨x, r2, r3⟩, r4⟩ := cheap_l1 h hn (P := (P : Int)) (by omega) m2 m3 (by omega) (cm + 1) 0 n 0 [] [[⟨⟨0, 0⟩, 0⟩]] (by omega) (by omega) (by omega) (by omega) start (by simp)
  have e1 := r4 cm xm m2 m3
  have e2 := (r2.cost h ho).le h ho
  rw [show (min x.bought (P : Int)).toNat = P by omega] at e2
  have e : (r : Int) = F one P := by omega
  rw [← e]
  exact r1
/-! ### The reference -/
/-- The fewest cents for each number of plays, as far as they are found. -/
structure Found (w : Wheel) (P : Nat) (cents : Int) (L : List Int) : Prop where
  l1 : 1 ≤ L.length
  l2 : L.length ≤ P + 1
  one : ∀ k : Nat, k < L.length → IsOne w k (L.getD k 0)
  all : ∀ s, Rep w s → s < cents → min (cN w s) P < L.length
theorem worksM : law01_works 1000000 = some true := by decide +kernel
/-- Where Cheapest has no answer. -/
theorem cheap_no {n : Nat} {w : Wheel} (hl : okLen n w) {p : Int} (hno : ¬ (valid w = true ∧ inR p 1 20 = true ∧ w.Coins.length ≠ 0 ∧ w.Notches.length ≠ 0)) :
    ∃ e : Int, coins_Cheapest n w p = some (0, e) ∧ ref01_Cheapest n w p = some (0, e) ∧ (valid w = true → inR p 1 20 = true → e = 3) := by
  unfold coins_Cheapest ref01_Cheapest
  rw [open_eq hl _ (inR p 1 20) (fun _ => by
    show (coins_Cheapest_c1 ⟨w⟩ p).map (fun y => (y, ())) = _
    unfold coins_Cheapest_c1
    rw [within_eq, bnd_some]
    rfl), bnd_some, rCheck_eq hl, bnd_some]
  cases hv : valid w with
  | false => exact ⟨10, rfl, rfl, fun q => by cases q⟩
  | true =>
    simp only [cond_true, bne_self_eq_false, Bool.false_eq_true, if_false]
    rw [Within_eq, bnd_some]
    cases hr : inR p 1 20 with
    | false => exact ⟨1, rfl, rfl, fun _ q => by cases q⟩
    | true =>
      simp only [cond_true, bne_self_eq_false, Bool.not_true, Bool.false_eq_true, if_false]
      refine ⟨3, ?_, ?_, fun _ _ => rfl⟩
      · by_cases q : w.Coins.length = 0
        · rw [if_pos (by simpa using q)]; rfl
        · rw [if_neg (by simpa using q)]
          have q2 : w.Notches.length = 0 := Classical.byContradiction fun q2 => hno ⟨hv, hr, q, q2⟩
          rw [show ((w.Notches.length : Int) == 0) = true by simpa using q2]; rfl
      · by_cases q : w.Coins.length = 0
        · rw [if_pos (by simpa using q)]; rfl
        · rw [if_neg (by simpa using q)]
          have q2 : w.Notches.length = 0 := Classical.byContradiction fun q2 => hno ⟨hv, hr, q, q2⟩
          rw [show ((w.Notches.length : Int) == 0) = true by simpa using q2]; rfl

/-- One more coin at the end. -/
theorem buysL_more {w : Wheel} (h : OkW w) {k : Nat} (hk : k < w.Coins.length) : ∀ (acts : List Int) (s : Stand) (b : Int), OkS w s b → acts.all (okAct w) = true → buysL w s acts ≤ buysL w s (acts ++ [(k : Int)])
  | [], s, b, hs, _ => by
    have hco := coin_range h (a := (k : Int)) (by omega) (by omega)
    have ht := turn_range h hs.p0 hs.p1 (show 0 ≤ coin w k by omega)
    simp only [List.nil_append, buysL]
    rw [if_pos (by omega)]
    omega
  | a :: acts, s, b, hs, hok => by
    simp only [List.all_cons, Bool.and_eq_true] at hok
    have := buysL_more h hk acts _ _ (actS_ok h hs hok.1) hok.2
    simp only [List.cons_append, buysL]
    omega
def moreP (l : List Int) (k : Nat) : List Int := l.set k (l.getD k 0 + 1)
theorem moreP_getD {l : List Int} {k j : Nat} (hk : k < l.length) : (moreP l k).getD j 0 = l.getD j 0 + (if k = j then 1 else 0) := by
  unfold moreP
  by_cases e : k = j
  · subst e
    rw [if_pos rfl, List.getD_eq_getElem?_getD, List.getElem?_set_self hk]
    rfl
  · rw [if_neg e, List.getD_eq_getElem?_getD, List.getElem?_set_ne e, ← List.getD_eq_getElem?_getD]
    omega
theorem total_more {l : List Int} {k : Nat} (h : k < l.length) : total (moreP l k) = total l + 1 := by
  unfold moreP
  rw [total_set h]
  omega
theorem OkP.more {w : Wheel} {l : List Int} (h : OkP w l) {k : Nat} (hk : k < w.Coins.length) (ht : total l < 1000) : OkP w (moreP l k) := by
  have hk' : k < l.length := by rw [h.len]; exact hk
  have := getD_le h.nn k
  refine ⟨by simp [moreP, h.len], fun x hx => ?_, by rw [total_more hk']; omega⟩
  rcases List.mem_or_eq_of_mem_set hx with hx | rfl
  · exact h.nn x hx
  · omega
theorem Q_more {w : Wheel} (h : OkW w) {l : List Int} (hl : OkP w l) (ht : total l < 1000) {k : Nat} (hk : k < w.Coins.length) : Q true w (total l).toNat 0 0 l ≤ Q true w (total (moreP l k)).toNat 0 0 (moreP l k) := by
  have hr := h.r1
  have hk' : k < l.length := by rw [hl.len]; exact hk
  have hn := total_nn hl.nn
  obtain ⟨acts, hw⟩ := Q_way true h (total l).toNat (p := 0) (c := 0) (l := l) (by omega) hl (by omega) (by omega) (by omega)
  have h1 := buysL_more h hk acts ⟨0, 0⟩ 0 ⟨by simp, by simp; omega, by simp, by simp⟩ hw.ok
  have h2 := way_le true h (acts ++ [(k : Int)]) (p := 0) (c := 0) (l := moreP l k) (by rw [List.all_append, hw.ok]; simp [okAct_k hk]) (fun j hj => by
    rw [cnt_append, hw.bag j hj, moreP_getD hk']
    simp only [cnt]
    by_cases e : k = j
    · rw [if_pos (by omega), if_pos e]; omega
    · rw [if_neg (by omega), if_neg e]; omega) (hl.more hk ht) (by omega) (by omega) (by omega)
  have h2 : buysL w ⟨0, 0⟩ (acts ++ [(k : Int)]) ≤ Q true w (total (moreP l k)).toNat 0 0 (moreP l k) := h2
  rw [hw.buys] at h1
  omega

/-! ### What a way costs -/
theorem bestS_ok {w : Wheel} {l : List Int} (hv : valid w = true) (hp : isPurse w l = true) : bestS true w l = (Q true w (total l).toNat 0 0 l, 0) := by
  unfold bestS
  rw [if_pos hv, if_pos hp]
/-! ### One more notch -/
structure More (w o : Wheel) : Prop where
  r : o.Round = w.Round
  c : o.Coins = w.Coins
  n : ∀ x, x ∈ w.Notches → x ∈ o.Notches
theorem put_more {w o : Wheel} (hm : More w o) : ∀ (k : Nat) (p c c' : Int), c ≤ c' → (put o k p c').1 = (put w k p c).1 ∧ (put w k p c).2 ≤ (put o k p c').2
  | 0, p, c, c', h => ⟨rfl, h⟩
  | k + 1, p, c, c', h => by
    simp only [put]
    have hh : hit w p ≤ hit o p := by
      unfold hit
      by_cases q : p + 1 ∈ w.Notches
      · rw [if_pos q, if_pos (hm.n _ q)]; omega
      · rw [if_neg q]; split <;> omega
    rw [hm.r]
    exact put_more hm k _ _ _ (by omega)
theorem turn_more {w o : Wheel} (h : OkW w) (h' : OkW o) (hm : More w o) {p c : Int} (hp : 0 ≤ p) (hp' : p < w.Round) (hc : 0 ≤ c) : (turn o p c).1 = (turn w p c).1 ∧ (turn w p c).2 ≤ (turn o p c).2 := by
  have e := put_more hm c.toNat p 0 0 (by omega)
  rw [put_turn h hp hp', put_turn h' hp (by rw [hm.r]; exact hp'), show ((c.toNat : Nat) : Int) = c by omega] at e
  exact e
theorem coin_more {w o : Wheel} (hm : More w o) (k : Int) : coin o k = coin w k := by
  unfold coin
  rw [hm.c]
theorem Q_notch {w o : Wheel} (h : OkW w) (h' : OkW o) (hm : More w o) : ∀ (T : Nat) {p c c' : Int} {l : List Int}, (T : Int) = total l → OkP w l → 0 ≤ p → p < w.Round → 0 ≤ c → c ≤ c' → Q true w T p c l ≤ Q true o T p c' l
  | 0, p, c, c', l, _, _, _, _, _, _ => Int.le_refl _
  | T + 1, p, c, c', l, hT, hl, hp, hp', hc, hcc => by
    have hr1 := h.r1
    obtain ⟨op, ho, he⟩ := Q_some (w := w) (T := T) (p := p) (c := c) true (show total l ≠ 0 by omega)
    have ok := opts_ok h hp hp' hc hl ho
    have hT' : (T : Int) = total (lessP l op.k) := by rw [total_less (by rw [hl.len]; exact ok.k)]; omega
    obtain ⟨j, h1, h2, h3, h4⟩ := opts_mem.1 ho
    have hj : j < w.Coins.length := by have := hl.len; omega
    have hco := kcoin h hj
    rw [← he]
    rcases optK_mem.1 h4 with rfl | ⟨h5, h6, rfl⟩
    · obtain ⟨t1, t2⟩ := turn_more h h' hm hp hp' (show 0 ≤ coin w j by omega)
      have e1 : (optC o p c' j).p = (optC w p c j).p := by
        show (turn o p (coin o j)).1 = _
        rw [coin_more hm, t1]
        rfl
      have e2 : (optC w p c j).plays ≤ (optC o p c' j).plays := by
        show (turn w p (coin w j)).2 ≤ (turn o p (coin o j)).2
        rw [coin_more hm]
        exact t2
      have e3 : (optC w p c j).c ≤ (optC o p c' j).c := by
        show c + (optC w p c j).plays ≤ c' + (optC o p c' j).plays
        omega
      have ih := Q_notch h h' hm T (p := (optC w p c j).p) (c := (optC w p c j).c) (c' := (optC o p c' j).c) hT' (hl.less ok.k ok.nz) ok.p0 ok.p1 ok.c0 e3
      have hle := Q_le (w := o) (T := T) (p := p) (c := c') (l := l) true (o := optC o p c' j) (opts_mem.2 ⟨j, h1, h2, h3, optK_mem.2 (.inl rfl)⟩)
      have hle : (optC o p c' j).plays + Q true o T (optC o p c' j).p (optC o p c' j).c (lessP l j) ≤ Q true o (T + 1) p c' l := hle
      rw [e1] at hle
      have ih : Q true w T (optC w p c j).p (optC w p c j).c (lessP l j) ≤ Q true o T (optC w p c j).p (optC o p c' j).c (lessP l j) := ih
      show (optC w p c j).plays + Q true w T (optC w p c j).p (optC w p c j).c (lessP l j) ≤ _
      omega
    · obtain ⟨t1, t2⟩ := turn_more h h' hm (p := 0) (by omega) (by omega) (show 0 ≤ coin w j by omega)
      have e1 : (optS o c' j).p = (optS w c j).p := by
        show (turn o 0 (coin o j)).1 = _
        rw [coin_more hm, t1]
        rfl
      have e2 : (optS w c j).plays ≤ (optS o c' j).plays := by
        show (turn w 0 (coin w j)).2 ≤ (turn o 0 (coin o j)).2
        rw [coin_more hm]
        exact t2
      have e3 : (optS w c j).c ≤ (optS o c' j).c := by
        show c - 1 + (optS w c j).plays ≤ c' - 1 + (optS o c' j).plays
        omega
      have ih := Q_notch h h' hm T (p := (optS w c j).p) (c := (optS w c j).c) (c' := (optS o c' j).c) hT' (hl.less ok.k ok.nz) ok.p0 ok.p1 ok.c0 e3
      have hle := Q_le (w := o) (T := T) (p := p) (c := c') (l := l) true (o := optS o c' j) (opts_mem.2 ⟨j, h1, h2, h3, optK_mem.2 (.inr ⟨by omega, h6, rfl⟩)⟩)
      have hle : (optS o c' j).plays + Q true o T (optS o c' j).p (optS o c' j).c (lessP l j) ≤ Q true o (T + 1) p c' l := hle
      rw [e1] at hle
      have ih : Q true w T (optS w c j).p (optS w c j).c (lessP l j) ≤ Q true o T (optS w c j).p (optS o c' j).c (lessP l j) := ih
      show (optS w c j).plays + Q true w T (optS w c j).p (optS w c j).c (lessP l j) ≤ _
      omega
theorem rep_more {w o : Wheel} (hm : More w o) {s : Int} (h : Rep w s) : Rep o s := by
  induction h with
  | zero => exact .zero
  | add s k _ hk ih =>
    rw [← coin_more hm]
    exact .add s k ih (by rw [hm.c]; exact hk)
theorem F_less {one one' : Nat → Int} {N : Nat} (h : ∀ k, k ≤ N → one' k ≤ one k) : ∀ n : Nat, n ≤ N → F one' n ≤ F one n := by
  intro n
  induction n using Nat.strongRecOn with
  | ind n ih =>
    intro hn
    by_cases e : n = 0
    · subst e; exact Int.le_refl 0
    · obtain ⟨k, a, b, c⟩ := F_eq one (show 1 ≤ n by omega)
      have h1 := F_le one' (n := n) (k := k) a b
      have h2 := ih (n - k) (by omega) (by omega)
      have h3 := h k (by omega)
      omega
theorem rise_of {lo hi : Int} : ∀ {l : List Int} {p : Option Int}, l.Pairwise (· < ·) → (∀ x, x ∈ l → lo ≤ x ∧ x ≤ hi) → (∀ y, p = some y → ∀ x, x ∈ l → y < x) → rise lo hi p l = true
  | [], p, _, _, _ => rfl
  | x :: l, p, hp, hr, hy => by
    obtain ⟨a, b⟩ := List.pairwise_cons.1 hp
    simp only [rise, Bool.and_eq_true]
    refine ⟨⟨inR_iff.2 (hr x (by simp)), ?_⟩, rise_of b (fun y hy' => hr y (by simp [hy'])) (fun y e z hz => ?_)⟩
    · cases p with
      | none => rfl
      | some y => simpa using hy y rfl x (by simp)
    · injection e with e
      subst e
      exact a z hz
theorem nodup_sub : ∀ {l m : List Int}, l.Nodup → (∀ x, x ∈ l → x ∈ m) → l.length ≤ m.length
  | [], m, _, _ => by simp
  | x :: l, m, hd, hs => by
    rw [List.nodup_cons] at hd
    have hx := hs x (by simp)
    have := nodup_sub (l := l) (m := m.erase x) hd.2 (fun y hy => (List.mem_erase_of_ne (fun e => hd.1 (by rw [← e]; exact hy))).2 (hs y (by simp [hy])))
    rw [List.length_erase_of_mem hx] at this
    have := List.length_pos_of_mem hx
    simp only [List.length_cons]
    omega
theorem more_ok {w : Wheel} (h : OkW w) (hv : valid w = true) {x : Int} (hx1 : 1 ≤ x) (hx2 : x ≤ w.Round) (hn : w.Notches.length < 12) : valid ⟨w.Round, inOrder (x :: w.Notches) 1 w.Round.toNat, w.Coins⟩ = true ∧ More w ⟨w.Round, inOrder (x :: w.Notches) 1 w.Round.toNat, w.Coins⟩ := by
  have hr := h.r1
  have hlt := inOrder_lt (x :: w.Notches) w.Round.toNat 1
  have hlen := nodup_sub (l := inOrder (x :: w.Notches) 1 w.Round.toNat) (m := x :: w.Notches) (hlt.imp (fun e q => by omega)) (fun y hy => (inOrder_mem.1 hy).2.2)
  have hrise := rise_of (lo := 1) (hi := w.Round) (p := none) hlt (fun y hy => by have := inOrder_mem.1 hy; omega) (fun y e => by cases e)
  refine ⟨?_, ⟨rfl, rfl, fun y hy => inOrder_mem.2 ?_⟩⟩
  · simp only [valid, Bool.and_eq_true, decide_eq_true_eq] at hv ⊢
    simp only [List.length_cons] at hlen
    exact ⟨⟨hv.1.1, hrise, by omega⟩, hv.2⟩
  · have := h.nm y hy
    exact ⟨by simp; omega, by simp; omega, by simp [hy]⟩
theorem more_l1 {n : Nat} {w : Wheel} (h : OkW w) (hn : 1000 ≤ n) (l : List Int) (x : Extra) (r5 : Int × Int) (r10 : Wheel) : ∀ (d i m : Nat) (out : List Int), (i : Int) + d = w.Round + 1 → d < m → out.length ≤ i → law01_CoinsMore_l1 n w l x r5 r10 m (i : Int) out = law01_CoinsMore_j4 n w l r5 r10 (out ++ inOrder (x.Notch :: w.Notches) i d) := by
  have hr := h.r2
  have hnl := h.nlen
  intro d
  induction d with
  | zero =>
    intro i m out hi hm ho
    obtain ⟨m, rfl⟩ : ∃ q, m = q + 1 := ⟨m - 1, by omega⟩
    simp only [law01_CoinsMore_l1, law01_CoinsMore_l1_b]
    rw [if_neg (by simp; omega)]
    simp [inOrder]
  | succ d ih =>
    intro i m out hi hm ho
    obtain ⟨m, rfl⟩ : ∃ q, m = q + 1 := ⟨m - 1, by omega⟩
    simp only [law01_CoinsMore_l1, law01_CoinsMore_l1_b, law01_CoinsMore_j7, law01_CoinsMore_j6, inOrder]
    rw [if_pos (by simp; omega), w64_id (by omega) (by omega), show (i : Int) + 1 = ((i + 1 : Nat) : Int) by simp]
    by_cases e : (i : Int) = x.Notch
    · rw [if_pos (by simpa using e), if_pos trivial, app_ok (by simp; omega), bnd_some, ih (i + 1) m (out ++ [(i : Int)]) (by omega) (by omega) (by simp; omega), if_pos (by simp [e]), List.append_assoc]
    · rw [if_neg (by simpa using e), In_eq _ _ (by omega) (by omega), bnd_some]
      by_cases q : (i : Int) ∈ w.Notches
      · rw [if_pos (by simpa using q), app_ok (by simp; omega), bnd_some, ih (i + 1) m (out ++ [(i : Int)]) (by omega) (by omega) (by simp; omega), if_pos (by simp [q]), List.append_assoc]
      · rw [if_neg (by simpa using q), ih (i + 1) m out (by omega) (by omega) (by omega), if_neg (by simp [q, e]), List.nil_append]
theorem law_CoinsMore (w : Wheel) (l : List Int) (x : Extra) : law01_CoinsMore 1000000 w l x = some true := by
  have hw : law01_CoinsMore_j1 1000000 w l x true = some true := by
    unfold law01_CoinsMore_j1
    rw [worksM]; rfl
  unfold law01_CoinsMore
  rw [isWheel_eq (by omega), bnd_some]
  cases hq : (!farW w && valid w) with
  | false => exact hw
  | true =>
  simp only [Bool.and_eq_true, Bool.not_eq_true'] at hq
  obtain ⟨hf, hv⟩ := hq
  have h := valid_ok hv
  have h4 := h.clen
  have hr1 := h.r1
  have hr2 := h.r2
  have hl := farW_len hf (n := 1000000) (by omega)
  simp only [Bool.not_true, Bool.false_eq_true, if_false]
  by_cases q1 : (l.length : Int) > 40
  · rw [if_pos (by simpa using q1)]; exact hw
  rw [if_neg (by simpa using q1), IsPurse_eq (by omega) (by omega), bnd_some]
  cases hp : isPurse w l with
  | false => exact hw
  | true =>
  simp only [Bool.not_true, Bool.false_eq_true, if_false]
  rw [rich_eq (by omega) hl (by omega), bnd_some]
  cases hr : richB w l with
  | true => exact hw
  | false =>
  obtain ⟨okl, l12⟩ := purse_ok hp
  have htn := total_nn okl.nn
  have hbest := bestS_ok hv hp
  -- the notch
  have notch : law01_CoinsMore_j2 1000000 w l x (bestS true w l) = some true := by
    have stop : law01_CoinsMore_j3 1000000 w l x (bestS true w l) true = some true := by
      unfold law01_CoinsMore_j3
      rw [worksM]; rfl
    unfold law01_CoinsMore_j2
    by_cases n1 : x.Notch < 1
    · rw [if_pos (by simpa using n1)]; exact stop
    by_cases n2 : x.Notch > w.Round
    · rw [if_neg (by simpa using n1), if_pos (by simpa using n2)]; exact stop
    rw [if_neg (by simpa using n1), if_neg (by simpa using n2), In_eq _ _ (by have := h.nlen; omega) (by have := h.nlen; omega), bnd_some]
    by_cases n3 : x.Notch ∈ w.Notches
    · rw [if_pos (by simpa using n3)]; exact stop
    rw [if_neg (by simpa using n3)]
    by_cases n4 : (w.Notches.length : Int) ≥ 12
    · rw [show decide ((w.Notches.length : Int) ≥ 12) = true by simpa using n4]; exact stop
    rw [show decide ((w.Notches.length : Int) ≥ 12) = false by simpa using n4]
    unfold law01_CoinsMore_j3
    rw [if_neg (by simp), Copy_eq hl, bnd_some]
    have hloop := more_l1 h (n := 1000000) (by omega) l x (bestS true w l) w w.Round.toNat 1 1000000 [] (by omega) (by omega) (by simp)
    rw [List.nil_append] at hloop
    rw [show law01_CoinsMore_l1 1000000 w l x (bestS true w l) w 1000000 1 [] = _ from hloop]
    obtain ⟨ov, om⟩ := more_ok h hv (x := x.Notch) (by omega) (by omega) (by omega)
    generalize hN : inOrder (x.Notch :: w.Notches) 1 w.Round.toNat = N at ov om
    have oo := valid_ok ov
    have ol := oo.len (n := 1000000) (by omega)
    have oN : (N.length : Int) ≤ 12 := by have := oo.nlen; exact_mod_cast this
    have op : isPurse ⟨w.Round, N, w.Coins⟩ l = true := hp
    have obest := bestS_ok ov op
    have hmono := Q_notch h oo om (total l).toNat (p := 0) (c := 0) (c' := 0) (l := l) (by omega) okl (by omega) (by omega) (by omega) (by omega)
    unfold law01_CoinsMore_j4
    rw [joined_eq (by simp; omega), bnd_some, List.append_nil, Most_eq ol (by omega) l (by omega) (by omega), bnd_some, obest, hbest]
    simp only [beq_self_eq_true, if_true]
    have xin : x.Notch ∈ N := by
      rw [← hN]
      exact inOrder_mem.2 ⟨by simp; omega, by simp; omega, by simp⟩
    have oN0 : N.length ≠ 0 := fun e => by
      rw [List.eq_nil_of_length_eq_zero e] at xin
      simp at xin
    by_cases hc : w.Coins.length ≠ 0
    · obtain ⟨one', ho'⟩ := ones oo hc oN0
      have eO := Cheapest_eq ol ov (n := 1000000) (by omega) hc oN0 (P := 3) (by omega) (one := one') (fun k hk => ho' k (by omega))
      by_cases hn0 : w.Notches.length ≠ 0
      · obtain ⟨one, ho⟩ := ones h hc hn0
        have eW := Cheapest_eq hl hv (n := 1000000) (by omega) hc hn0 (P := 3) (by omega) (one := one) (fun k hk => ho k (by omega))
        have hle := F_less (one := one) (one' := one') (N := 20) (fun k hk => by
          have a := ho k hk
          have b := ho' k hk
          have hs := a.rep.nn h
          refine b.least _ (rep_more om a.rep) ?_
          have := (turn_more h oo om (p := 0) (by omega) (by omega) hs).2
          have hcc := a.cnt
          unfold cN at hcc ⊢
          omega) 3 (by omega)
        rw [show ((3 : Nat) : Int) = 3 from rfl] at eW eO
        rw [eW, bnd_some, eO, bnd_some, if_pos (by simpa using hmono)]
        simp only [law01_isKnown, law01_isKnown_j1, beq_self_eq_true, if_true, bnd_some, bne_self_eq_false, Bool.false_eq_true, if_false]
        rw [if_pos (by simpa using hle), worksM]; rfl
      · obtain ⟨e, e1, _, e3⟩ := cheap_no (n := 1000000) hl (p := 3) (fun q => hn0 q.2.2.2)
        rw [show ((3 : Nat) : Int) = 3 from rfl] at eO
        rw [e1, e3 hv rfl, bnd_some, eO, bnd_some, if_pos (by simpa using hmono)]
        simp [law01_isKnown, law01_isKnown_j1, law01_CoinsMore_j5, worksM]
    · obtain ⟨e, e1, _, e3⟩ := cheap_no (n := 1000000) hl (p := 3) (fun q => hc q.2.2.1)
      obtain ⟨e', f1, _, f3⟩ := cheap_no (n := 1000000) ol (p := 3) (fun q => hc q.2.2.1)
      rw [e1, e3 hv rfl, bnd_some, f1, f3 ov rfl, bnd_some, if_pos (by simpa using hmono)]
      simp [law01_isKnown, law01_isKnown_j1, law01_CoinsMore_j5, worksM]
  unfold law01_CoinsMore_j1
  simp only [Bool.false_eq_true, if_false]
  rw [joined_eq (by simp; omega), bnd_some, List.append_nil, Most_eq hl (by omega) l (by omega) (by omega), bnd_some, show (bestS true w l).2 = 0 by rw [hbest]]
  simp only [bne_self_eq_false, Bool.false_eq_true, if_false]
  have skip : law01_CoinsMore_j8 1000000 w l x (bestS true w l) false = some true := by
    unfold law01_CoinsMore_j8
    rw [if_neg (by simp)]
    exact notch
  by_cases k1 : x.Kind ≥ 0
  · rw [if_pos (by simpa using k1)]
    by_cases k2 : x.Kind < w.Coins.length
    · rw [show decide (x.Kind < (w.Coins.length : Int)) = true by simpa using k2]
      obtain ⟨K, hK⟩ : ∃ K : Nat, x.Kind = K := ⟨x.Kind.toNat, by omega⟩
      have hKl : K < w.Coins.length := by omega
      have hKl' : K < l.length := by rw [okl.len]; exact hKl
      have g := getD_le okl.nn K
      have ek : l[K] = l.getD K 0 := by simp [hKl']
      unfold law01_CoinsMore_j8
      rw [if_pos rfl, joined_eq (by simp; omega), bnd_some, List.append_nil, hK, idx_nat hKl', bnd_some, bnd_some, Int.toNat_natCast, ek, w64_id (by omega) (by omega), show l.set K (l.getD K 0 + 1) = moreP l K from rfl, IsPurse_eq (by omega) (by omega), bnd_some]
      have fin : ∀ b : Bool, (b = true → isPurse w (moreP l K) = true) → law01_CoinsMore_j9 1000000 w l x (bestS true w l) l (l.getD K 0) b = some true := by
        intro b hb
        unfold law01_CoinsMore_j9
        cases b with
        | false => rw [if_neg (by simp)]; exact notch
        | true =>
          have hpm := hb rfl
          have hml : (moreP l K).length = l.length := by simp [moreP]
          rw [if_pos rfl, hK, Int.toNat_natCast, w64_id (by omega) (by omega), show l.set K (l.getD K 0 + 1) = moreP l K from rfl, Most_eq hl (by omega) (moreP l K) (by omega) (by omega), bnd_some, bestS_ok hv hpm]
          simp only [bne_self_eq_false, Bool.false_eq_true, if_false]
          have := Q_more h okl (by omega) hKl
          rw [hbest, show decide (Q true w (total (moreP l K)).toNat 0 0 (moreP l K) < Q true w (total l).toNat 0 0 l) = false by simpa using this, ← hbest]
          unfold law01_CoinsMore_j10
          rw [if_neg (by simp)]
          exact notch
      cases hpm : isPurse w (moreP l K) with
      | false =>
        rw [if_neg (by simp)]
        exact fin false (fun q => by cases q)
      | true =>
        rw [if_pos rfl, rich_eq (by omega) hl (by omega), bnd_some]
        exact fin _ (fun _ => hpm)
    · rw [show decide (x.Kind < (w.Coins.length : Int)) = false by simpa using k2]
      exact skip
  · rw [if_neg (by simpa using k1)]
    exact skip
end Go.Law
