/-
  Plain laws.
  Conditions: none.
-/
import Derived.Test.YtapcibbbmeomkaaMd
import Derived.Test.YtapcibbbmeomkaaPlA
set_option linter.all false
namespace Go.Law
open Go Go.AM
theorem works01 : law01_works 20000 = some true := by decide +kernel

/-- A loop over a list. -/
theorem loopL {α S R : Type} (F : Nat → Int → S → Option R) (xs : List α) (spec : List α → S → Option R) (hl : xs.length < 1048576) (h0 : ∀ m s, F (m + 1) (xs.length : Int) s = spec [] s)
    (hs : ∀ m (i : Nat) x l s, idx xs (i : Int) = some x → (i : Int) < (xs.length : Int) → i < 1048576 → xs.drop (i + 1) = l → (∀ s', F m (w64 ((i : Int) + 1)) s' = spec l s') → F (m + 1) (i : Int) s = spec (x :: l) s) :
    ∀ (l : List α) (i m : Nat) (s : S), i ≤ xs.length → xs.drop i = l → l.length < m → F m (i : Int) s = spec l s := by
  intro l
  induction l with
  | nil =>
    intro i m s hi hd hm
    obtain ⟨m, rfl⟩ : ∃ k, m = k + 1 := ⟨m - 1, by omega⟩
    have : i = xs.length := by have := List.drop_eq_nil_iff.1 hd; omega
    subst this
    exact h0 m s
  | cons x l ih =>
    intro i m s hi hd hm
    obtain ⟨m, rfl⟩ : ∃ k, m = k + 1 := ⟨m - 1, by omega⟩
    simp only [List.length_cons] at hm
    have hlt : i < xs.length := by
      rcases Nat.lt_or_ge i xs.length with h | h
      · exact h
      · rw [List.drop_eq_nil_of_le h] at hd; cases hd
    rw [List.drop_eq_getElem_cons hlt] at hd
    injection hd with h1 h2
    refine hs m i x l s (by rw [idx_nat hlt, h1]) (by omega) (by omega) h2 fun s' => ?_
    rw [w64_id (by omega) (by omega)]
    exact ih (i + 1) m s' (by omega) h2 (by omega)
/-- The same, where something must stand. -/
theorem loopI {α S R : Type} (F : Nat → Int → S → Option R) (xs : List α) (spec : List α → S → Option R) (I : List α → S → Prop) (hl : xs.length < 1048576) (h0 : ∀ m s, I [] s → F (m + 1) (xs.length : Int) s = spec [] s)
    (hs : ∀ m (i : Nat) x l s, I (x :: l) s → idx xs (i : Int) = some x → (i : Int) < (xs.length : Int) → i < 1048576 → xs.drop (i + 1) = l → (∀ s', I l s' → F m (w64 ((i : Int) + 1)) s' = spec l s') → F (m + 1) (i : Int) s = spec (x :: l) s) :
    ∀ (l : List α) (i m : Nat) (s : S), i ≤ xs.length → xs.drop i = l → l.length < m → I l s → F m (i : Int) s = spec l s := by
  intro l
  induction l with
  | nil =>
    intro i m s hi hd hm hI
    obtain ⟨m, rfl⟩ : ∃ k, m = k + 1 := ⟨m - 1, by omega⟩
    have : i = xs.length := by have := List.drop_eq_nil_iff.1 hd; omega
    subst this
    exact h0 m s hI
  | cons x l ih =>
    intro i m s hi hd hm hI
    obtain ⟨m, rfl⟩ : ∃ k, m = k + 1 := ⟨m - 1, by omega⟩
    simp only [List.length_cons] at hm
    have hlt : i < xs.length := by
      rcases Nat.lt_or_ge i xs.length with h | h
      · exact h
      · rw [List.drop_eq_nil_of_le h] at hd; cases hd
    rw [List.drop_eq_getElem_cons hlt] at hd
    injection hd with h1 h2
    refine hs m i x l s hI (by rw [idx_nat hlt, h1]) (by omega) (by omega) h2 fun s' hI' => ?_
    rw [w64_id (by omega) (by omega)]
    exact ih (i + 1) m s' (by omega) h2 (by omega) hI'
theorem bnd_some {α β : Type} (a : α) (f : α → Option β) : Option.bind (some a) f = f a := rfl
theorem within_eq (a b c : Int) : coins_within a b c = some (inR a b c) := by
  unfold coins_within coins_within_j1 inR
  by_cases h : b ≤ a <;> simp [h]
theorem Within_eq (a b c : Int) : ref01_Within a b c = some (inR a b c) := by
  unfold ref01_Within ref01_Within_j1 inR
  by_cases h : b ≤ a <;> simp [h]
/-- Do numbers rise, behind another one. -/
def rise (lo hi : Int) : Option Int → List Int → Bool
  | _, [] => true
  | prev, x :: l => inR x lo hi && (match prev with | none => true | some y => decide (y < x)) && rise lo hi (some x) l
theorem nil_or_last (pre : List Int) : pre = [] ∨ ∃ q y, pre = q ++ [y] := by
  rcases List.eq_nil_or_concat pre with h | ⟨q, y, h⟩
  · exact .inl h
  · exact .inr ⟨q, y, by simpa using h⟩
theorem idx_last (q : List Int) (y : Int) (l : List Int) (h : (q ++ [y] ++ l).length < 1048576) : idx (q ++ [y] ++ l) (w64 (((q ++ [y]).length : Int) - 1)) = some y := by
  simp at h
  rw [w64_id (by simp <;> omega) (by simp <;> omega), show (((q ++ [y]).length : Int) - 1) = (q.length : Int) by simp, show q ++ [y] ++ l = q ++ y :: l by simp, idx_mid]
theorem Rising_l (lo hi : Int) : ∀ (l pre : List Int) (m : Nat), (pre ++ l).length < 1048576 → l.length < m →
    ref01_Rising_l1 (pre ++ l) lo hi m (pre.length : Int) = some (rise lo hi pre.getLast? l) := by
  intro l
  induction l with
  | nil =>
    intro pre m hs hm
    obtain ⟨m, rfl⟩ : ∃ k, m = k + 1 := ⟨m - 1, by omega⟩
    simp [ref01_Rising_l1, ref01_Rising_l1_b, ref01_Rising_j1, rise]
  | cons x l ih =>
    intro pre m hs hm
    obtain ⟨m, rfl⟩ : ∃ k, m = k + 1 := ⟨m - 1, by omega⟩
    have h := ih (pre ++ [x]) m (by simpa using hs) (by simp at hm; omega)
    rw [show (((pre ++ [x]).length : Nat) : Int) = (pre.length : Int) + 1 by simp, List.getLast?_concat, show pre ++ [x] ++ l = pre ++ x :: l by simp] at h
    simp at hs hm
    simp only [ref01_Rising_l1, ref01_Rising_l1_b]
    rw [if_pos (by simp <;> omega), idx_mid]
    simp only [Option.bind_some, Within_eq, rise]
    by_cases hr : inR x lo hi = true
    · rw [if_neg (by simp [hr])]
      rcases nil_or_last pre with rfl | ⟨q, y, rfl⟩
      · rw [if_neg (by simp)]
        simp only [ref01_Rising_j2]
        rw [if_neg (by simp), w64_id (by simp) (by simp), h]
        simp [hr]
      · rw [if_pos (by simp <;> omega), idx_last q y (x :: l) (by simp at hs ⊢; omega)]
        simp only [Option.bind_some, ref01_Rising_j2, List.getLast?_concat]
        by_cases hb : x ≤ y
        · rw [if_pos (by simpa using hb)]
          simp [hr, show ¬ y < x by omega]
        · rw [if_neg (by simpa using hb), w64_id (by omega) (by omega), h]
          simp [hr, show y < x by omega]
    · have hr' : inR x lo hi = false := by simpa using hr
      rw [if_pos (by simp [hr'])]
      simp [ref01_Rising_j2, hr']
theorem Rising_eq {n : Nat} (l : List Int) (lo hi : Int) (hs : l.length < 1048576) (hn : l.length < n) : ref01_Rising n l lo hi = some (rise lo hi none l) := Rising_l lo hi l [] n (by simpa using hs) hn
theorem rising_l (many most : Int) : ∀ (l pre : List Int) (m : Nat), (pre ++ l).length < 1048576 → l.length < m →
    coins_rising_l1 (pre ++ l) many most m (pre.length : Int) = some (rise 1 most pre.getLast? l && decide (((pre ++ l).length : Int) ≤ many)) := by
  intro l
  induction l with
  | nil =>
    intro pre m hs hm
    obtain ⟨m, rfl⟩ : ∃ k, m = k + 1 := ⟨m - 1, by omega⟩
    simp [coins_rising_l1, coins_rising_l1_b, coins_rising_j1, rise]
  | cons x l ih =>
    intro pre m hs hm
    obtain ⟨m, rfl⟩ : ∃ k, m = k + 1 := ⟨m - 1, by omega⟩
    have h := ih (pre ++ [x]) m (by simpa using hs) (by simp at hm; omega)
    rw [show (((pre ++ [x]).length : Nat) : Int) = (pre.length : Int) + 1 by simp, List.getLast?_concat, show pre ++ [x] ++ l = pre ++ x :: l by simp] at h
    simp at hs hm
    simp only [coins_rising_l1, coins_rising_l1_b]
    rw [if_pos (by simp <;> omega), idx_mid]
    simp only [Option.bind_some, within_eq, rise]
    by_cases hr : inR x 1 most = true
    · rw [if_neg (by simp [hr])]
      rcases nil_or_last pre with rfl | ⟨q, y, rfl⟩
      · rw [if_neg (by simp)]
        simp only [coins_rising_j2]
        rw [if_neg (by simp), w64_id (by simp) (by simp), h]
        simp [hr]
      · rw [if_pos (by simp <;> omega), idx_last q y (x :: l) (by simp at hs ⊢; omega)]
        simp only [Option.bind_some, coins_rising_j2, List.getLast?_concat]
        by_cases hb : x ≤ y
        · rw [if_pos (by simpa using hb)]
          simp [hr, show ¬ y < x by omega]
        · rw [if_neg (by simpa using hb), w64_id (by omega) (by omega), h]
          simp [hr, show y < x by omega]
    · have hr' : inR x 1 most = false := by simpa using hr
      rw [if_pos (by simp [hr'])]
      simp [coins_rising_j2, hr']
theorem rising_eq {n : Nat} (l : List Int) (many most : Int) (hs : l.length < 1048576) (hn : l.length < n) : coins_rising n l many most = some (rise 1 most none l && decide ((l.length : Int) ≤ many)) := rising_l many most l [] n (by simpa using hs) hn
/-- Is a wheel valid. -/
def valid (w : Wheel) : Bool := inR w.Round 1 200 && (rise 1 w.Round none w.Notches && decide ((w.Notches.length : Int) ≤ 12)) && (rise 1 100 none w.Coins && decide ((w.Coins.length : Int) ≤ 4))
def okLen (n : Nat) (w : Wheel) : Prop := w.Notches.length < 1048576 ∧ w.Coins.length < 1048576 ∧ w.Notches.length < n ∧ w.Coins.length < n
theorem Check_eq {n : Nat} {w : Wheel} (h : okLen n w) : coins_Check n w = some (cond (valid w) 0 10) := by
  obtain ⟨h1, h2, h3, h4⟩ := h
  unfold coins_Check coins_Check_j1 valid
  rw [within_eq, bnd_some, rising_eq _ _ _ h1 h3, rising_eq _ _ _ h2 h4, bnd_some, bnd_some]
  cases inR w.Round 1 200 <;> cases (rise 1 w.Round none w.Notches && decide ((w.Notches.length : Int) ≤ 12)) <;> cases (rise 1 100 none w.Coins && decide ((w.Coins.length : Int) ≤ 4)) <;> rfl
theorem rCheck_eq {n : Nat} {w : Wheel} (h : okLen n w) : ref01_Check n w = some (cond (valid w) 0 10) := by
  obtain ⟨h1, h2, h3, h4⟩ := h
  unfold ref01_Check ref01_Check_j1 valid
  rw [Within_eq, bnd_some, Rising_eq _ _ _ h1 h3, Rising_eq _ _ _ h2 h4, bnd_some, bnd_some]
  by_cases q1 : (w.Notches.length : Int) ≤ 12
  · have e1 : decide ((w.Notches.length : Int) > 12) = false := by simpa using q1
    rw [e1]
    by_cases q2 : (w.Coins.length : Int) ≤ 4
    · have e2 : decide ((w.Coins.length : Int) > 4) = false := by simpa using q2
      rw [e2]
      simp only [q1, q2, decide_true, Bool.and_true]
      cases inR w.Round 1 200 <;> cases rise 1 w.Round none w.Notches <;> cases rise 1 100 none w.Coins <;> rfl
    · have e2 : decide ((w.Coins.length : Int) > 4) = true := by simp; omega
      rw [e2]
      simp only [q2, decide_false, Bool.and_false]
      cases inR w.Round 1 200 <;> cases rise 1 w.Round none w.Notches <;> rfl
  · have e1 : decide ((w.Notches.length : Int) > 12) = true := by simp; omega
    rw [e1]
    simp only [q1, decide_false, Bool.and_false, Bool.false_and]
    cases inR w.Round 1 200 <;> rfl
theorem rise_mem {lo hi : Int} : ∀ {l : List Int} {p : Option Int}, rise lo hi p l = true → (∀ x, x ∈ l → lo ≤ x ∧ x ≤ hi ∧ ∀ y, p = some y → y < x) ∧ l.Pairwise (· < ·)
  | [], _, _ => ⟨fun x h => by simp at h, .nil⟩
  | x :: l, p, h => by
    simp only [rise, Bool.and_eq_true] at h
    obtain ⟨⟨h1, h2⟩, h3⟩ := h
    obtain ⟨ih1, ih2⟩ := rise_mem h3
    have h1' := inR_iff.1 h1
    have hp : ∀ y, p = some y → y < x := fun y e => by subst e; simpa using h2
    refine ⟨fun z hz => ?_, List.pairwise_cons.2 ⟨fun z hz => (ih1 z hz).2.2 x rfl, ih2⟩⟩
    rcases List.mem_cons.1 hz with rfl | hz
    · exact ⟨h1'.1, h1'.2, hp⟩
    · have := ih1 z hz
      exact ⟨this.1, this.2.1, fun y e => Int.lt_trans (hp y e) (this.2.2 x rfl)⟩
/-- What a valid wheel is. -/
structure OkW (w : Wheel) : Prop where
  r1 : 1 ≤ w.Round
  r2 : w.Round ≤ 200
  nlen : w.Notches.length ≤ 12
  clen : w.Coins.length ≤ 4
  nm : ∀ x, x ∈ w.Notches → 1 ≤ x ∧ x ≤ w.Round
  nd : w.Notches.Pairwise (· < ·)
  cm : ∀ x, x ∈ w.Coins → 1 ≤ x ∧ x ≤ 100
  cd : w.Coins.Pairwise (· < ·)
theorem valid_ok {w : Wheel} (h : valid w = true) : OkW w := by
  simp only [valid, Bool.and_eq_true, decide_eq_true_eq] at h
  obtain ⟨⟨h1, h2, h3⟩, h4, h5⟩ := h
  have h1 := inR_iff.1 h1
  obtain ⟨a1, a2⟩ := rise_mem h2
  obtain ⟨b1, b2⟩ := rise_mem h4
  exact ⟨h1.1, h1.2, by omega, by omega, fun x hx => ⟨(a1 x hx).1, (a1 x hx).2.1⟩, a2, fun x hx => ⟨(b1 x hx).1, (b1 x hx).2.1⟩, b2⟩
theorem OkW.len {w : Wheel} (h : OkW w) {n : Nat} (hn : 100 ≤ n) : okLen n w := ⟨by have := h.nlen; omega, by have := h.clen; omega, by have := h.nlen; omega, by have := h.clen; omega⟩

/-! ### Cents -/
def nx (R p : Int) : Int := if p + 1 = R then 0 else p + 1
def hit (w : Wheel) (p : Int) : Int := if p + 1 ∈ w.Notches then 1 else 0
/-- The place and the plays after so many cents. -/
def put (w : Wheel) : Nat → Int → Int → Int × Int
  | 0, p, c => (p, c)
  | k + 1, p, c => put w k (nx w.Round p) (c + hit w p)
theorem nx_range {R p : Int} (h0 : 0 ≤ p) (h1 : p < R) : 0 ≤ nx R p ∧ nx R p < R := by
  unfold nx
  split <;> omega
theorem hit_range (w : Wheel) (p : Int) : 0 ≤ hit w p ∧ hit w p ≤ 1 := by
  unfold hit
  split <;> omega
theorem put_range {w : Wheel} (h : OkW w) : ∀ (k : Nat) (p c : Int), 0 ≤ p → p < w.Round → (0 ≤ (put w k p c).1 ∧ (put w k p c).1 < w.Round) ∧ c ≤ (put w k p c).2 ∧ (put w k p c).2 ≤ c + k
  | 0, p, c, h0, h1 => ⟨⟨h0, h1⟩, by simp [put], by simp [put]⟩
  | k + 1, p, c, h0, h1 => by
    have hy := nx_range h0 h1
    have hx := hit_range w p
    have := put_range h k (nx w.Round p) (c + hit w p) hy.1 hy.2
    simp only [put]
    omega
theorem put_acc (w : Wheel) : ∀ (k : Nat) (p c : Int), put w k p c = ((put w k p 0).1, c + (put w k p 0).2)
  | 0, p, c => by simp [put]
  | k + 1, p, c => by
    simp only [put]
    rw [put_acc w k (nx w.Round p) (c + hit w p), put_acc w k (nx w.Round p) (0 + hit w p)]
    simp only [Prod.mk.injEq, true_and]
    omega
theorem put_add (w : Wheel) : ∀ (j k : Nat) (p c : Int), put w (j + k) p c = put w k (put w j p c).1 (put w j p c).2
  | 0, k, p, c => by simp [put]
  | j + 1, k, p, c => by
    rw [show j + 1 + k = (j + k) + 1 by omega]
    simp only [put]
    exact put_add w j k _ _
/-! ### The notches that were reached -/
theorem ediv_succ {A R : Int} (hR : 0 < R) : (A + 1) / R = A / R + (if A % R = R - 1 then 1 else 0) := by
  have h1 := Int.mul_ediv_add_emod A R
  have h2 := Int.emod_nonneg A (show R ≠ 0 by omega)
  have h3 := Int.emod_lt_of_pos A hR
  split
  · rename_i h
    have : A + 1 = R * (A / R + 1) := by rw [Int.mul_add]; omega
    rw [this, Int.mul_ediv_cancel_left _ (by omega)]
  · rename_i h
    have : A + 1 = (A % R + 1) + R * (A / R) := by omega
    rw [this, Int.add_mul_ediv_left _ _ (by omega), Int.ediv_eq_zero_of_lt (by omega) (by omega)]
    omega
theorem emod_succ {A R : Int} (hR : 0 < R) : (A + 1) % R = nx R (A % R) := by
  have h1 := Int.mul_ediv_add_emod A R
  have h2 := Int.emod_nonneg A (show R ≠ 0 by omega)
  have h3 := Int.emod_lt_of_pos A hR
  unfold nx
  split
  · rename_i h
    have : A + 1 = R * (A / R + 1) := by rw [Int.mul_add]; omega
    rw [this, Int.mul_emod_right]
  · rename_i h
    have : A + 1 = (A % R + 1) + R * (A / R) := by omega
    rw [this, Int.add_mul_emod_self_left, Int.emod_eq_of_lt (by omega) (by omega)]
theorem emod_notch {B R m : Int} (hR : 0 < R) (h1 : 1 ≤ m) (h2 : m ≤ R) : (B - m + R) % R = R - 1 ↔ m = B % R + 1 := by
  have e1 := Int.mul_ediv_add_emod B R
  have e2 := Int.emod_nonneg B (show R ≠ 0 by omega)
  have e3 := Int.emod_lt_of_pos B hR
  by_cases h : m ≤ B % R
  · have : B - m + R = (B % R - m) + R * (B / R + 1) := by rw [Int.mul_add]; omega
    rw [this, Int.add_mul_emod_self_left, Int.emod_eq_of_lt (by omega) (by omega)]
    omega
  · have : B - m + R = (B % R - m + R) + R * (B / R) := by omega
    rw [this, Int.add_mul_emod_self_left, Int.emod_eq_of_lt (by omega) (by omega)]
    omega
/-- How often the notches are reached. -/
def reached (R e p : Int) : List Int → Int
  | [] => 0
  | m :: l => (e - m + R) / R - (p - m + R) / R + reached R e p l
def turn (w : Wheel) (p c : Int) : Int × Int := ((p + c) % w.Round, reached w.Round (p + c) p w.Notches)
theorem reached_succ {R B p : Int} (hR : 0 < R) : ∀ (l : List Int), (∀ x, x ∈ l → 1 ≤ x ∧ x ≤ R) → l.Pairwise (· < ·) → reached R (B + 1) p l = reached R B p l + (if B % R + 1 ∈ l then 1 else 0)
  | [], _, _ => by simp [reached]
  | m :: l, h, hd => by
    have hm := h m (by simp)
    obtain ⟨d1, d2⟩ := List.pairwise_cons.1 hd
    have ih := reached_succ (B := B) (p := p) hR l (fun x hx => h x (by simp [hx])) d2
    simp only [reached]
    rw [ih, show B + 1 - m + R = (B - m + R) + 1 by omega, ediv_succ hR]
    have hn := emod_notch (B := B) hR hm.1 hm.2
    by_cases q : m = B % R + 1
    · rw [if_pos (hn.2 q), if_pos (show B % R + 1 ∈ m :: l by simp [q]), if_neg (fun hx => by have := d1 _ hx; omega)]
      omega
    · rw [if_neg (fun hx => q (hn.1 hx))]
      by_cases q2 : B % R + 1 ∈ l
      · rw [if_pos q2, if_pos (by simp [q2])]
        omega
      · rw [if_neg q2, if_neg (by simp [q2]; omega)]
        omega
theorem reached_self {R p : Int} : ∀ (l : List Int), reached R p p l = 0
  | [] => rfl
  | m :: l => by simp only [reached]; rw [reached_self l]; omega
theorem put_turn {w : Wheel} (h : OkW w) {p : Int} (h0 : 0 ≤ p) (h1 : p < w.Round) : ∀ k : Nat, put w k p 0 = turn w p k
  | 0 => by
    unfold turn
    rw [show p + ((0 : Nat) : Int) = p by simp, reached_self, Int.emod_eq_of_lt h0 h1]
    rfl
  | k + 1 => by
    have hr := h.r1
    have ih := put_turn h h0 h1 k
    rw [put_add w k 1 p 0, ih]
    unfold turn
    simp only [put]
    rw [show p + ((k + 1 : Nat) : Int) = (p + k) + 1 by simp; omega, emod_succ (by omega), reached_succ (by omega) w.Notches h.nm h.nd]
    rfl
theorem turn_range {w : Wheel} (h : OkW w) {p c : Int} (h0 : 0 ≤ p) (h1 : p < w.Round) (hc : 0 ≤ c) : (0 ≤ (turn w p c).1 ∧ (turn w p c).1 < w.Round) ∧ 0 ≤ (turn w p c).2 ∧ (turn w p c).2 ≤ c := by
  have := put_range h c.toNat p 0 h0 h1
  rw [put_turn h h0 h1, show ((c.toNat : Nat) : Int) = c by omega] at this
  omega
theorem reached_part {R e p : Int} (hR : 0 < R) (h : p ≤ e) : ∀ l : List Int, 0 ≤ reached R e p l
  | [] => by simp [reached]
  | m :: l => by
    have := reached_part hR h l
    have h2 := Int.ediv_le_ediv hR (show p - m + R ≤ e - m + R by omega)
    simp only [reached]
    omega
theorem turn_eq {n : Nat} {w : Wheel} (h : OkW w) (hn : 100 ≤ n) {p c : Int} (hp : 0 ≤ p) (hp' : p < w.Round) (hc : 0 ≤ c) (hc2 : c < 1048576) : coins_wheel_turn n ⟨w⟩ p c = some (turn w p c) := by
  have hr := h.r1
  have hr2 := h.r2
  have hl := h.nlen
  have hfin := turn_range h hp hp' hc
  unfold turn at hfin
  simp only at hfin
  have e0 : w64 (p + c) = p + c := w64_id (by omega) (by omega)
  have key := loopI (F := fun m i s => coins_wheel_turn_l1 ⟨w⟩ p c m s i) (xs := w.Notches) (spec := fun l s => some ((p + c) % w.Round, s + reached w.Round (p + c) p l)) (I := fun l s => 0 ≤ s ∧ s + reached w.Round (p + c) p l ≤ c ∧ ∀ x, x ∈ l → 1 ≤ x ∧ x ≤ w.Round) (by omega)
    (fun m s hI => by simp [coins_wheel_turn_l1, coins_wheel_turn_l1_b, coins_wheel_turn_j1, reached, e0, rem_nn (show 0 ≤ p + c by omega) (show 0 < w.Round by omega)])
    (fun m i x l s hI hx hi _ _ hrec => by
      obtain ⟨i1, i2, i3⟩ := hI
      have hxm := i3 x (by simp)
      simp only [reached] at i2
      have hrl := reached_part (R := w.Round) (e := p + c) (p := p) (by omega) (by omega) l
      have hd1 := Int.ediv_nonneg (show 0 ≤ p + c - x + w.Round by omega) (show 0 ≤ w.Round by omega)
      have hd2 := Int.ediv_nonneg (show 0 ≤ p - x + w.Round by omega) (show 0 ≤ w.Round by omega)
      have hd3 := Int.ediv_le_self w.Round (show 0 ≤ p + c - x + w.Round by omega)
      have hd5 := Int.ediv_le_ediv (show 0 < w.Round by omega) (show p - x + w.Round ≤ p + c - x + w.Round by omega)
      simp only [coins_wheel_turn_l1, coins_wheel_turn_l1_b]
      rw [if_pos (by simpa using hi), hx, bnd_some, e0, w64_id (x := p + c - x) (by omega) (by omega), w64_id (x := p + c - x + w.Round) (by omega) (by omega), w64_id (x := p - x) (by omega) (by omega), w64_id (x := p - x + w.Round) (by omega) (by omega),
        quo_nn (by omega) (by omega) (by omega), quo_nn (by omega) (by omega) (by omega), bnd_some, bnd_some, w64_id (x := _ - _) (by omega) (by omega), w64_id (x := s + _) (by omega) (by omega),
        hrec _ ⟨by omega, by omega, fun y hy => i3 y (by simp [hy])⟩]
      simp only [reached]
      congr 2
      omega)
    w.Notches 0 n 0 (by omega) rfl (by omega) ⟨by omega, by omega, h.nm⟩
  have key : coins_wheel_turn_l1 ⟨w⟩ p c n 0 0 = _ := key
  unfold coins_wheel_turn
  rw [key]
  unfold turn
  rw [Int.zero_add]

/-- A stand of a wheel. -/
structure OkS (w : Wheel) (s : Stand) (b : Int) : Prop where
  p0 : 0 ≤ s.Place
  p1 : s.Place < w.Round
  c0 : 0 ≤ s.Credit
  c1 : s.Credit ≤ b
def okAct (w : Wheel) (a : Int) : Bool := inR a (-1) (w.Coins.length - 1)
def okKind (w : Wheel) (a : Int) : Bool := inR a 0 (w.Coins.length - 1)
def coin (w : Wheel) (a : Int) : Int := w.Coins.getD a.toNat 0
/-- The stand after an act, and whether a selection was made. -/
def actS (w : Wheel) (s : Stand) (a : Int) : Stand × Bool :=
  if 0 ≤ a then (⟨(turn w s.Place (coin w a)).1, s.Credit + (turn w s.Place (coin w a)).2⟩, false) else if s.Credit = 0 then (s, false) else (⟨0, s.Credit - 1⟩, true)
theorem coin_idx {w : Wheel} {a : Int} (h0 : 0 ≤ a) (h1 : a ≤ w.Coins.length - 1) : idx w.Coins a = some (coin w a) := by
  obtain ⟨k, rfl⟩ : ∃ k : Nat, a = k := ⟨a.toNat, by omega⟩
  have hk : k < w.Coins.length := by omega
  rw [idx_nat hk]
  simp [coin, hk]
theorem coin_range {w : Wheel} (h : OkW w) {a : Int} (h0 : 0 ≤ a) (h1 : a ≤ w.Coins.length - 1) : 1 ≤ coin w a ∧ coin w a ≤ 100 := by
  obtain ⟨k, rfl⟩ : ∃ k : Nat, a = k := ⟨a.toNat, by omega⟩
  have hk : k < w.Coins.length := by omega
  have : coin w k = w.Coins[k] := by simp [coin, hk]
  rw [this]
  exact h.cm _ (List.getElem_mem hk)
theorem actS_ok {w : Wheel} (h : OkW w) {s : Stand} {b a : Int} (hs : OkS w s b) (ha : okAct w a = true) : OkS w (actS w s a).1 (b + 100) := by
  have ha := inR_iff.1 ha
  have hr := h.r1
  unfold actS
  split
  · rename_i h0
    have hc := coin_range h h0 ha.2
    have ht := turn_range h hs.p0 hs.p1 (show 0 ≤ coin w a by omega)
    have := hs.c0
    have := hs.c1
    exact ⟨ht.1.1, ht.1.2, by show 0 ≤ s.Credit + _; omega, by show s.Credit + _ ≤ _; omega⟩
  · have := hs.c0
    have := hs.c1
    split
    · exact ⟨hs.p0, hs.p1, hs.c0, by show s.Credit ≤ b + 100; omega⟩
    · exact ⟨by show (0 : Int) ≤ 0; omega, by show (0 : Int) < _; omega, by show 0 ≤ s.Credit - 1; omega, by show s.Credit - 1 ≤ _; omega⟩
theorem act_eq {n : Nat} {w : Wheel} (h : OkW w) (hn : 200 ≤ n) {s : Stand} {b a : Int} (hs : OkS w s b) (hb : b < 1099511627776) (ha : okAct w a = true) : coins_wheel_act n ⟨w⟩ s a = some (actS w s a).1 := by
  have ha := inR_iff.1 ha
  have := hs.c0
  have := hs.c1
  unfold coins_wheel_act actS
  by_cases h0 : 0 ≤ a
  · have hc := coin_range h h0 ha.2
    have ht := turn_range h hs.p0 hs.p1 (show 0 ≤ coin w a by omega)
    rw [if_pos (by simp; omega), if_pos h0, coin_idx h0 ha.2, bnd_some, turn_eq h (by omega) hs.p0 hs.p1 (by omega) (by omega), bnd_some, w64_id (by omega) (by omega)]
  · rw [if_neg (by simp; omega), if_neg h0]
    by_cases hc : s.Credit = 0
    · rw [if_neg (by simp; omega), if_pos hc]
    · rw [if_pos (by simp; omega), if_neg hc, w64_id (by omega) (by omega)]

/-! ### slices.ContainsFunc -/
theorem allI {n : Nat} (f : Int → Option Bool) (g : Int → Bool) (xs : List Int) (hf : ∀ x, x ∈ xs → f x = some (g x)) (hl : xs.length < 1048576) (hn : xs.length < n) :
    coins_all_int n (fun x (_ : Unit) => (f x).map fun y => (y, ())) xs () = some (decide ((xs.length : Int) ≤ 20) && xs.all g, ()) := by
  have key : ∀ (l : List Int) (i m : Nat) (s : Unit), i ≤ xs.length → xs.drop i = l → l.length < m → (slices_IndexFunc_int_l1 xs (coins_all_int_c1 (fun x (_ : Unit) => (f x).map fun y => (y, ()))) m (i : Int) s).map (fun r => decide (r.1 ≥ 0)) = some (!l.all g) := by
    intro l i m s h1 h2 h3
    refine loopL (fun m i s => (slices_IndexFunc_int_l1 xs (coins_all_int_c1 (fun x (_ : Unit) => (f x).map fun y => (y, ()))) m i s).map (fun r => decide (r.1 ≥ 0))) xs (fun l _ => some (!l.all g)) hl (fun m s => ?_) (fun m i x l s hx hi _ _ hrec => ?_) l i m s h1 h2 h3
    · simp [slices_IndexFunc_int_l1, slices_IndexFunc_int_l1_b, slices_IndexFunc_int_j1]
    · have hmem : x ∈ xs := by
        unfold idx at hx
        rw [if_pos (by omega)] at hx
        exact List.mem_of_getElem? hx
      simp only [slices_IndexFunc_int_l1, slices_IndexFunc_int_l1_b]
      rw [if_pos (by simpa using hi), hx, bnd_some]
      simp only [coins_all_int_c1, hf x hmem, Option.map_some, bnd_some]
      by_cases hg : g x = true
      · rw [if_neg (by simp [hg])]
        have := hrec ()
        rw [this]
        simp [hg]
      · rw [if_pos (by simpa using hg)]
        simp [hg]
  have h := key xs 0 n () (by omega) rfl hn
  unfold coins_all_int coins_all_int_j1
  by_cases hq : (xs.length : Int) ≤ 20
  · rw [if_pos (by simpa using hq)]
    unfold slices_ContainsFunc_int slices_IndexFunc_int
    change Option.map _ (slices_IndexFunc_int_l1 xs _ n 0 ()) = _ at h
    cases hx : slices_IndexFunc_int_l1 xs (coins_all_int_c1 (fun x (_ : Unit) => (f x).map fun y => (y, ()))) n 0 () with
    | none => rw [hx] at h; cases h
    | some r =>
      rw [hx] at h
      simp only [Option.map_some, Option.some.injEq] at h
      simp only [bnd_some]
      rw [h]
      simp [hq]
  · rw [if_neg (by simpa using hq)]
    simp [hq]
theorem isKind_eq {w : Wheel} (hw : w.Coins.length < 1048576) (x : Int) : coins_wheel_isKind ⟨w⟩ x = some (okKind w x) := by
  unfold coins_wheel_isKind okKind
  simp only []
  rw [w64_id (by omega) (by omega), within_eq, bnd_some]
theorem isAct_eq {w : Wheel} (hw : w.Coins.length < 1048576) (x : Int) : coins_wheel_isAct ⟨w⟩ x = some (okAct w x) := by
  unfold coins_wheel_isAct coins_wheel_isAct_j1
  rw [isKind_eq hw, bnd_some]
  have e : okAct w x = (decide (x = -1) || okKind w x) := by
    rw [Bool.eq_iff_iff]
    simp only [okAct, okKind, inR_iff, Bool.or_eq_true, decide_eq_true_eq]
    omega
  rw [e]
  by_cases h : x = -1
  · rw [if_pos (by simpa using h)]
    simp [h]
  · rw [if_neg (by simpa using h)]
    simp [h]
def okPlace (w : Wheel) (p : Int) : Bool := inR p 0 (w.Round - 1)
theorem isPlace_eq {w : Wheel} (h : OkW w) (p : Int) : coins_wheel_isPlace ⟨w⟩ p = some (okPlace w p) := by
  have := h.r1
  have := h.r2
  unfold coins_wheel_isPlace okPlace
  simp only []
  rw [w64_id (by omega) (by omega), within_eq, bnd_some]
theorem IsPlace_eq {w : Wheel} (h : OkW w) (p : Int) : ref01_IsPlace w p = some (okPlace w p) := by
  have := h.r1
  have := h.r2
  unfold ref01_IsPlace okPlace
  rw [w64_id (by omega) (by omega), Within_eq, bnd_some]
def okStand (w : Wheel) (s : Stand) : Bool := okPlace w s.Place && inR s.Credit 0 20
theorem okStand_ok {w : Wheel} {s : Stand} (h : okStand w s = true) : OkS w s 20 := by
  simp only [okStand, okPlace, Bool.and_eq_true, inR_iff] at h
  exact ⟨h.1.1, by omega, h.2.1, h.2.2⟩
def zw : Wheel_ := ⟨⟨0, [], []⟩⟩
theorem open_eq {n : Nat} {w : Wheel} (hl : okLen n w) (aF : Wheel_ → Unit → Option (Bool × Unit)) (b : Bool) (ha : valid w = true → aF ⟨w⟩ () = some (b, ())) :
    coins_open n aF w () = some (cond (valid w) (cond b (((⟨w⟩ : Wheel_), 0), ()) ((zw, 1), ())) ((zw, 10), ())) := by
  unfold coins_open
  rw [Check_eq hl, bnd_some]
  cases hv : valid w with
  | false => rfl
  | true =>
    rw [ha hv]
    cases b <;> rfl
/-! ### Run -/
def runL (w : Wheel) : List Int → Int → Stand → Stand × Int
  | [], k, s => (s, k)
  | a :: l, k, s => runL w l (k + if (actS w s a).2 then 1 else 0) (actS w s a).1
def runS (w : Wheel) (s : Stand) (acts : List Int) : Stand × Int × Int :=
  if valid w = true then (if okStand w s = true ∧ (acts.length : Int) ≤ 20 ∧ acts.all (okAct w) = true then ((runL w acts 0 s).1, (runL w acts 0 s).2, 0) else (⟨0, 0⟩, 0, 1)) else (⟨0, 0⟩, 0, 10)
theorem made_iff {w : Wheel} {s : Stand} {a : Int} (h : okAct w a = true) (hc : 0 ≤ s.Credit) : (actS w s a).2 = true ↔ a = -1 ∧ s.Credit > 0 := by
  have h := inR_iff.1 h
  unfold actS
  split
  · simp; omega
  · split <;> simp <;> omega
theorem run_l {n : Nat} {w : Wheel} (h : OkW w) (hn : 200 ≤ n) (acts : List Int) (hl : (acts.length : Int) ≤ 20) (ha : acts.all (okAct w) = true) {s : Stand} (hs : OkS w s 20) :
    coins_Run_l1 n acts ((⟨w⟩, 0), ()) n 0 0 s.Place s.Credit = some ((runL w acts 0 s).1, (runL w acts 0 s).2, 0) := by
  have key := loopI (F := fun m i (q : Int × Stand) => coins_Run_l1 n acts ((⟨w⟩, 0), ()) m q.1 i q.2.Place q.2.Credit) (xs := acts) (spec := fun l q => some ((runL w l q.1 q.2).1, (runL w l q.1 q.2).2, 0))
    (I := fun l q => (0 ≤ q.1 ∧ q.1 + l.length ≤ 100) ∧ OkS w q.2 (2100 - 100 * l.length) ∧ l.length ≤ 20 ∧ l.all (okAct w) = true) (by omega)
    (fun m q hI => by simp [coins_Run_l1, coins_Run_l1_b, coins_Run_j1, runL])
    (fun m i x l q hI hx hi _ _ hrec => by
      obtain ⟨i1, i2, i3, i4⟩ := hI
      simp only [List.length_cons, List.all_cons, Bool.and_eq_true] at i1 i2 i3 i4
      have hb : (2100 - 100 * ((l.length + 1 : Nat) : Int)) + 100 = 2100 - 100 * (l.length : Int) := by simp; omega
      have hok := actS_ok h i2 i4.1
      rw [hb] at hok
      have hmi := made_iff i4.1 i2.c0
      have goal : ∀ c : Bool, (c = (actS w q.2 x).2) → coins_Run_j3 n (coins_Run_l1 n acts ((⟨w⟩, 0), ()) m) ((⟨w⟩, 0), ()) q.1 (i : Int) q.2.Place q.2.Credit x c = some ((runL w (x :: l) q.1 q.2).1, (runL w (x :: l) q.1 q.2).2, 0) := by
        rintro c rfl
        have e : (⟨q.2.Place, q.2.Credit⟩ : Stand) = q.2 := rfl
        simp only [coins_Run_j3, coins_Run_j2, runL, e, act_eq h hn i2 (by omega) i4.1, bnd_some]
        by_cases hm : (actS w q.2 x).2 = true
        · rw [if_pos hm, w64_id (x := q.1 + 1) (by omega) (by omega)]
          have := hrec (q.1 + 1, (actS w q.2 x).1) ⟨⟨by simp; omega, by simp; omega⟩, hok, by omega, i4.2⟩
          simp only at this
          rw [this]
          simp [hm]
        · rw [if_neg hm]
          have := hrec (q.1, (actS w q.2 x).1) ⟨⟨by simp; omega, by simp; omega⟩, hok, by omega, i4.2⟩
          simp only at this
          rw [this]
          simp [hm]
      simp only [coins_Run_l1, coins_Run_l1_b]
      rw [if_pos (by simpa using hi), hx, bnd_some]
      by_cases hx1 : x = -1
      · rw [if_pos (by simpa using hx1)]
        refine goal _ ?_
        rw [Bool.eq_iff_iff, hmi]
        simp [hx1]
      · rw [if_neg (by simpa using hx1)]
        refine goal _ ?_
        rw [Bool.eq_iff_iff, hmi]
        simp [hx1])
    acts 0 n (0, s) (by omega) rfl (by omega) ⟨⟨by simp, by simp; omega⟩, ⟨hs.p0, hs.p1, hs.c0, by have := hs.c1; simp; omega⟩, by omega, ha⟩
  exact key
theorem Run_eq {n : Nat} {w : Wheel} (hl : okLen n w) (hn : 200 ≤ n) (s : Stand) (acts : List Int) (h1 : acts.length < 1048576) (h2 : acts.length < n) : coins_Run n w s acts = some (runS w s acts) := by
  unfold coins_Run runS
  rw [open_eq hl _ (okStand w s && (decide ((acts.length : Int) ≤ 20) && acts.all (okAct w))) (fun hv => ?_), bnd_some]
  · cases hv : valid w with
    | false => rfl
    | true =>
      have h := valid_ok hv
      by_cases hq : okStand w s = true ∧ (acts.length : Int) ≤ 20 ∧ acts.all (okAct w) = true
      · rw [if_pos rfl, if_pos hq, hq.1, hq.2.2, show decide ((acts.length : Int) ≤ 20) = true by simpa using hq.2.1]
        exact run_l h hn acts hq.2.1 hq.2.2 (okStand_ok hq.1)
      · rw [if_pos rfl, if_neg hq, show (okStand w s && (decide ((acts.length : Int) ≤ 20) && acts.all (okAct w))) = false by
          cases hz : (okStand w s && (decide ((acts.length : Int) ≤ 20) && acts.all (okAct w))) with
          | false => rfl
          | true => simp only [Bool.and_eq_true, decide_eq_true_eq] at hz; exact (hq hz).elim]
        rfl
  · have h := valid_ok hv
    show (coins_Run_c1 n ⟨w⟩ s acts).map (fun y => (y, ())) = _
    unfold coins_Run_c1 coins_Run_c1_j1
    rw [isPlace_eq h, bnd_some, within_eq, allI (fun x => coins_wheel_isAct ⟨w⟩ x) (okAct w) acts (fun x _ => isAct_eq hl.2.1 x) h1 h2]
    unfold okStand
    cases okPlace w s.Place <;> cases inR s.Credit 0 20 <;> rfl
/-! ### Plays -/
def worth (w : Wheel) : List Int → Int
  | [] => 0
  | k :: l => coin w k + worth w l
theorem worth_range {w : Wheel} (h : OkW w) : ∀ {l : List Int}, l.all (okKind w) = true → (l.length : Int) ≤ worth w l ∧ worth w l ≤ 100 * l.length
  | [], _ => by simp [worth]
  | k :: l, hl => by
    simp only [List.all_cons, Bool.and_eq_true] at hl
    have hk := inR_iff.1 hl.1
    have := coin_range h hk.1 hk.2
    have := worth_range h hl.2
    simp only [worth, List.length_cons]
    omega
def playsS (w : Wheel) (p : Int) (kinds : List Int) : Int × Int :=
  if valid w = true then (if okPlace w p = true ∧ (kinds.length : Int) ≤ 20 ∧ kinds.all (okKind w) = true then ((turn w p (worth w kinds)).2, 0) else (0, 1)) else (0, 10)
theorem Plays_eq {n : Nat} {w : Wheel} (hl : okLen n w) (hn : 2100 ≤ n) (p : Int) (kinds : List Int) (h1 : kinds.length < 1048576) (h2 : kinds.length < n) : coins_Plays n w p kinds = some (playsS w p kinds) := by
  unfold coins_Plays playsS
  rw [open_eq hl _ (okPlace w p && (decide ((kinds.length : Int) ≤ 20) && kinds.all (okKind w))) (fun hv => ?_), bnd_some]
  · cases hv : valid w with
    | false => rfl
    | true =>
      have h := valid_ok hv
      by_cases hq : okPlace w p = true ∧ (kinds.length : Int) ≤ 20 ∧ kinds.all (okKind w) = true
      · rw [if_pos rfl, if_pos hq, hq.1, hq.2.2, show decide ((kinds.length : Int) ≤ 20) = true by simpa using hq.2.1]
        have hw := worth_range h hq.2.2
        have hp := inR_iff.1 hq.1
        have key := loopI (F := fun m i s => coins_Plays_l1 n w p kinds ((⟨w⟩, 0), ()) m s i) (xs := kinds) (spec := fun k s => some ((turn w p (s + worth w k)).2, 0)) (I := fun k s => 0 ≤ s ∧ s + 100 * k.length ≤ 100000 ∧ k.all (okKind w) = true) (by omega)
          (fun m s hI => by
            obtain ⟨i1, i2, _⟩ := hI
            simp only [List.length_nil] at i2
            simp [coins_Plays_l1, coins_Plays_l1_b, coins_Plays_j1, worth, turn_eq h (show 100 ≤ n by omega) hp.1 (show p < w.Round by omega) i1 (show s < 1048576 by omega)])
          (fun m i x k s hI hx hi _ _ hrec => by
            obtain ⟨i1, i2, i3⟩ := hI
            simp only [List.all_cons, Bool.and_eq_true, List.length_cons] at i2 i3
            have hk := inR_iff.1 i3.1
            have hc := coin_range h hk.1 hk.2
            simp only [coins_Plays_l1, coins_Plays_l1_b]
            rw [if_pos (by simpa using hi), hx, bnd_some, coin_idx hk.1 hk.2, bnd_some, w64_id (x := s + _) (by omega) (by omega), hrec _ ⟨by omega, by omega, i3.2⟩]
            simp only [worth]
            congr 4
            omega)
          kinds 0 n 0 (by omega) rfl h2 ⟨by omega, by omega, hq.2.2⟩
        have key : coins_Plays_l1 n w p kinds ((⟨w⟩, 0), ()) n 0 0 = _ := key
        rw [Int.zero_add] at key
        exact key
      · rw [if_pos rfl, if_neg hq, show (okPlace w p && (decide ((kinds.length : Int) ≤ 20) && kinds.all (okKind w))) = false by
          cases hz : (okPlace w p && (decide ((kinds.length : Int) ≤ 20) && kinds.all (okKind w))) with
          | false => rfl
          | true => simp only [Bool.and_eq_true, decide_eq_true_eq] at hz; exact (hq hz).elim]
        rfl
  · have h := valid_ok hv
    show (coins_Plays_c1 n ⟨w⟩ p kinds).map (fun y => (y, ())) = _
    unfold coins_Plays_c1 coins_Plays_c1_j1
    rw [isPlace_eq h, bnd_some, allI (fun x => coins_wheel_isKind ⟨w⟩ x) (okKind w) kinds (fun x _ => isKind_eq hl.2.1 x) h1 h2]
    cases okPlace w p <;> rfl
def farW (w : Wheel) : Bool := decide ((w.Notches.length : Int) > 40) || decide ((w.Coins.length : Int) > 40)
theorem far_eq (w : Wheel) : law01_far w = some (farW w) := by
  unfold law01_far law01_far_j1 farW
  by_cases h : (w.Notches.length : Int) > 40
  · rw [if_pos (by simpa using h)]; simp [h]
  · rw [if_neg (by simpa using h)]; simp [h]
theorem farW_len {w : Wheel} (h : farW w = false) {n : Nat} (hn : 100 ≤ n) : okLen n w := by
  simp only [farW, Bool.or_eq_false_iff, decide_eq_false_iff_not] at h
  exact ⟨by omega, by omega, by omega, by omega⟩

theorem turn_add {w : Wheel} (h : OkW w) {p c d : Int} (h0 : 0 ≤ p) (h1 : p < w.Round) (hc : 0 ≤ c) (hd : 0 ≤ d) :
    turn w p (c + d) = ((turn w (turn w p c).1 d).1, (turn w p c).2 + (turn w (turn w p c).1 d).2) := by
  obtain ⟨j, rfl⟩ : ∃ j : Nat, c = j := ⟨c.toNat, by omega⟩
  obtain ⟨k, rfl⟩ : ∃ k : Nat, d = k := ⟨d.toNat, by omega⟩
  have hr := turn_range h h0 h1 (show (0 : Int) ≤ (j : Int) by omega)
  rw [show ((j : Int) + (k : Int)) = ((j + k : Nat) : Int) by simp, ← put_turn h h0 h1 (j + k), put_add, put_acc, put_turn h h0 h1 j, put_turn h hr.1.1 hr.1.2 k]
theorem runL_kinds {w : Wheel} (h : OkW w) : ∀ (l : List Int) (k : Int) (s : Stand), l.all (okKind w) = true → 0 ≤ s.Place → s.Place < w.Round →
    runL w l k s = (⟨(turn w s.Place (worth w l)).1, s.Credit + (turn w s.Place (worth w l)).2⟩, k)
  | [], k, s, _, h0, h1 => by
    have := put_turn h h0 h1 0
    simp only [runL, worth]
    rw [show turn w s.Place 0 = put w 0 s.Place 0 from this.symm]
    simp [put]
  | x :: l, k, s, hl, h0, h1 => by
    simp only [List.all_cons, Bool.and_eq_true] at hl
    have hk := inR_iff.1 hl.1
    have hc := coin_range h hk.1 hk.2
    have ht := turn_range h h0 h1 (show 0 ≤ coin w x by omega)
    have hw := worth_range h hl.2
    have ea : actS w s x = (⟨(turn w s.Place (coin w x)).1, s.Credit + (turn w s.Place (coin w x)).2⟩, false) := by unfold actS; rw [if_pos hk.1]
    simp only [runL, ea, Bool.false_eq_true, if_false, Int.add_zero]
    rw [runL_kinds h l k _ hl.2 ht.1.1 ht.1.2]
    simp only [worth]
    rw [turn_add h h0 h1 (by omega) (by omega)]
    simp only [Prod.mk.injEq, Stand.mk.injEq, and_true, true_and]
    omega
theorem isWheel_eq {n : Nat} (hn : 100 ≤ n) (w : Wheel) : law01_isWheel n w = some (!farW w && valid w) := by
  unfold law01_isWheel law01_isWheel_j1
  rw [far_eq, bnd_some]
  cases hf : farW w with
  | true => rfl
  | false =>
    rw [rCheck_eq (farW_len hf hn), bnd_some]
    cases valid w <;> rfl
theorem kinds_acts {w : Wheel} {l : List Int} (h : l.all (okKind w) = true) : l.all (okAct w) = true := by
  rw [List.all_eq_true] at h ⊢
  intro x hx
  have := inR_iff.1 (h x hx)
  exact inR_iff.2 ⟨by omega, this.2⟩
theorem playsS_ok {w : Wheel} (hv : valid w = true) {p : Int} {l : List Int} (hp : okPlace w p = true) (hl : (l.length : Int) ≤ 20) (hk : l.all (okKind w) = true) : playsS w p l = ((turn w p (worth w l)).2, 0) := by
  unfold playsS
  rw [if_pos hv, if_pos ⟨hp, hl, hk⟩]
theorem runS_ok {w : Wheel} (hv : valid w = true) {s : Stand} {l : List Int} (hp : okStand w s = true) (hl : (l.length : Int) ≤ 20) (hk : l.all (okKind w) = true) :
    runS w s l = (⟨(turn w s.Place (worth w l)).1, s.Credit + (turn w s.Place (worth w l)).2⟩, 0, 0) := by
  have hs := okStand_ok hp
  unfold runS
  rw [if_pos hv, if_pos ⟨hp, hl, kinds_acts hk⟩, runL_kinds (valid_ok hv) l 0 s hk hs.p0 hs.p1]
/-! ### The whole round -/
theorem reached_round {R q p : Int} (hR : 0 < R) : ∀ l : List Int, reached R (p + R * q) p l = q * l.length
  | [] => by simp [reached]
  | m :: l => by
    simp only [reached]
    rw [reached_round hR l, show p + R * q - m + R = (p - m + R) + R * q by omega, Int.add_mul_ediv_left _ _ (by omega), List.length_cons, Int.natCast_add, Int.mul_add]
    simp
    omega
theorem turn_round {w : Wheel} {p q : Int} (h0 : 0 ≤ p) (h1 : p < w.Round) : turn w p (w.Round * q) = (p, q * w.Notches.length) := by
  unfold turn
  rw [reached_round (by omega), Int.add_mul_emod_self_left, Int.emod_eq_of_lt h0 h1]
theorem worth_rep (w : Wheel) (k : Int) : ∀ j : Nat, worth w (List.replicate j k) = j * coin w k
  | 0 => by simp [worth]
  | j + 1 => by
    rw [List.replicate_succ]
    simp only [worth]
    rw [worth_rep w k j, show ((j + 1 : Nat) : Int) = (j : Int) + 1 by simp, Int.add_mul]
    omega
theorem around_l {w : Wheel} (hf : farW w = false) (hv : valid w = true) {p k : Int} (hp : okPlace w p = true) (h0 : 0 ≤ k) (h1 : k < w.Coins.length) : ∀ (d j m : Nat), d = 20 - j → j ≤ 20 → d < m →
    law01_CoinsAround_l1 20000 w p k m (List.replicate j k) (j * coin w k) = some true := by
  have h := valid_ok hv
  have hl := farW_len hf (n := 20000) (by omega)
  have hc := coin_range h h0 (by omega : k ≤ w.Coins.length - 1)
  have hR := h.r1
  have hR2 := h.r2
  have hnl := h.nlen
  have hpp := inR_iff.1 hp
  have kok : okKind w k = true := inR_iff.2 ⟨h0, by omega⟩
  have key : ∀ (j m : Nat), j ≤ 20 → (j < 20 → law01_CoinsAround_l1 20000 w p k m (List.replicate (j + 1) k) ((j + 1 : Nat) * coin w k) = some true) → law01_CoinsAround_l1 20000 w p k (m + 1) (List.replicate j k) (j * coin w k) = some true := by
    intro j m hj hrec
    have hjc : 0 ≤ (j : Int) * coin w k ∧ (j : Int) * coin w k ≤ 2000 := by
      refine ⟨Int.mul_nonneg (by omega) (by omega), ?_⟩
      have := Int.mul_le_mul (show (j : Int) ≤ 20 by omega) hc.2 (by omega) (by omega)
      omega
    have go : law01_CoinsAround_j4 20000 (law01_CoinsAround_l1 20000 w p k m) w p k (List.replicate j k) (j * coin w k) true = some true := by
      unfold law01_CoinsAround_j4
      rw [if_pos rfl]
      by_cases q : j = 20
      · rw [if_pos (by simp [q]), works01]
        rfl
      · rw [if_neg (by simp; omega), app_ok (by simp; omega), bnd_some, coin_idx h0 (by omega), bnd_some]
        have e : List.replicate j k ++ [k] = List.replicate (j + 1) k := by rw [List.replicate_succ']
        have e2 : w64 ((j : Int) * coin w k + coin w k) = ((j + 1 : Nat) : Int) * coin w k := by
          rw [w64_id (by omega) (by omega), show ((j + 1 : Nat) : Int) = (j : Int) + 1 by simp, Int.add_mul]
          omega
        rw [e, e2]
        exact hrec (by omega)
    have stop : ∀ q : Int, (j : Int) * coin w k = w.Round * q → law01_CoinsAround_j2 20000 w p (List.replicate j k) (j * coin w k) = some true := by
      intro q hq
      have ka : (List.replicate j k).all (okKind w) = true := by simp [List.all_replicate, kok]
      have hst : okStand w ⟨p, 0⟩ = true := by simp [okStand, hp, inR]
      have hq0 : 0 ≤ q ∧ q ≤ 2000 := by
        constructor
        · rcases Int.lt_or_le q 0 with h | h
          · have := Int.mul_le_mul_of_nonneg_left (show q ≤ -1 by omega) (show 0 ≤ w.Round by omega)
            omega
          · exact h
        · rcases Int.lt_or_le 2000 q with h | h
          · have := Int.mul_le_mul hR (show 2001 ≤ q by omega) (by omega) (by omega)
            omega
          · exact h
      have hqn : 0 ≤ q * (w.Notches.length : Int) ∧ q * (w.Notches.length : Int) ≤ 24000 := by
        refine ⟨Int.mul_nonneg hq0.1 (by omega), ?_⟩
        have := Int.mul_le_mul hq0.2 (show (w.Notches.length : Int) ≤ 12 by omega) (by omega) (by omega)
        omega
      unfold law01_CoinsAround_j2
      rw [Plays_eq hl (by omega) p _ (by simp; omega) (by simp; omega), playsS_ok hv hp (by simp; omega) ka, bnd_some, Run_eq hl (by omega) _ _ (by simp; omega) (by simp; omega), runS_ok hv hst (by simp; omega) ka, bnd_some, worth_rep, hq,
        turn_round hpp.1 (by omega), quo_nn (by rw [← hq]; omega) (by omega) (by rw [← hq]; omega), Int.mul_ediv_cancel_left _ (by omega), bnd_some, w64_id (by omega) (by omega), works01]
      simp [law01_CoinsAround_j3]
    simp only [law01_CoinsAround_l1, law01_CoinsAround_l1_b]
    by_cases q : (j : Int) * coin w k = 0
    · rw [if_pos (by simpa using q)]
      exact go
    · rw [if_neg (by simpa using q), rem_nn hjc.1 (by omega), bnd_some]
      by_cases q2 : (j : Int) * coin w k % w.Round = 0
      · rw [q2]
        exact stop ((j : Int) * coin w k / w.Round) (by have := Int.mul_ediv_add_emod ((j : Int) * coin w k) w.Round; omega)
      · rw [show ((j : Int) * coin w k % w.Round != 0) = true by simpa using q2]
        exact go
  intro d
  induction d with
  | zero =>
    intro j m hd hj hm
    obtain ⟨m, rfl⟩ : ∃ k, m = k + 1 := ⟨m - 1, by omega⟩
    exact key j m hj (fun hj' => by omega)
  | succ d ih =>
    intro j m hd hj hm
    obtain ⟨m, rfl⟩ : ∃ k, m = k + 1 := ⟨m - 1, by omega⟩
    exact key j m hj (fun hj' => ih (j + 1) m (by omega) (by omega) (by omega))
theorem law_CoinsAround (w : Wheel) (p k : Int) : law01_CoinsAround 20000 w p k = some true := by
  have hw : law01_CoinsAround_j1 20000 w p k true = some true := by
    unfold law01_CoinsAround_j1
    rw [works01]; rfl
  unfold law01_CoinsAround
  rw [isWheel_eq (by omega), bnd_some]
  cases hq : (!farW w && valid w) with
  | false => exact hw
  | true =>
    simp only [Bool.and_eq_true, Bool.not_eq_true'] at hq
    obtain ⟨hf, hv⟩ := hq
    have h := valid_ok hv
    simp only [Bool.not_true, Bool.false_eq_true, if_false]
    rw [IsPlace_eq h, bnd_some]
    cases hp : okPlace w p with
    | false => exact hw
    | true =>
    simp only [Bool.not_true, Bool.false_eq_true, if_false]
    by_cases q1 : k < 0
    · rw [if_pos (by simpa using q1)]; exact hw
    rw [if_neg (by simpa using q1)]
    by_cases q2 : k ≥ (w.Coins.length : Int)
    · rw [show decide (k ≥ (w.Coins.length : Int)) = true by simpa using q2]; exact hw
    rw [show decide (k ≥ (w.Coins.length : Int)) = false by simpa using q2]
    have := around_l hf hv hp (k := k) (by omega) (by omega) 20 0 20000 rfl (by omega) (by omega)
    rw [show ((0 : Nat) : Int) * coin w k = 0 by simp] at this
    exact this
end Go.Law
