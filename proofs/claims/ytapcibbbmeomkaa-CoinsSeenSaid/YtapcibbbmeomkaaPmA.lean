/-
  Plain laws.
  Conditions: none.
-/
import Derived.Test.YtapcibbbmeomkaaMd
import Derived.Test.YtapcibbbmeomkaaPlA
import Derived.Test.YtapcibbbmeomkaaAmSd
set_option linter.all false
namespace Go.Law
open Go Go.AM
theorem works01 : law01_works 20000 = some true := by decide +kernel

/-- A loop over a list. -/
theorem loopL {α S R : Type} (F : Nat → Int → S → Option R) (xs : List α) (spec : List α → S → Option R) (hl : xs.length < 1048576) (h0 : ∀ m s, F (m + 1) (xs.length : Int) s = spec [] s)
    (hs : ∀ m (i : Nat) x l s, idx xs (i : Int) = some x → (i : Int) < (xs.length : Int) → i < 1048576 → xs.drop (i + 1) = l → (∀ s', F m (w64 ((i : Int) + 1)) s' = spec l s') → F (m + 1) (i : Int) s = spec (x :: l) s) :
    ∀ (l : List α) (i m : Nat) (s : S), i ≤ xs.length → xs.drop i = l → l.length < m → F m (i : Int) s = spec l s := by
  intro l
  induction l with
  | nil =>
    intro i m s hi hd hm
    obtain ⟨m, rfl⟩ : ∃ k, m = k + 1 := ⟨m - 1, by omega⟩
    have : i = xs.length := by have := List.drop_eq_nil_iff.1 hd; omega
    subst this
    exact h0 m s
  | cons x l ih =>
    intro i m s hi hd hm
    obtain ⟨m, rfl⟩ : ∃ k, m = k + 1 := ⟨m - 1, by omega⟩
    simp only [List.length_cons] at hm
    have hlt : i < xs.length := by
      rcases Nat.lt_or_ge i xs.length with h | h
      · exact h
      · rw [List.drop_eq_nil_of_le h] at hd; cases hd
    rw [List.drop_eq_getElem_cons hlt] at hd
    injection hd with h1 h2
    refine hs m i x l s (by rw [idx_nat hlt, h1]) (by omega) (by omega) h2 fun s' => ?_
    rw [w64_id (by omega) (by omega)]
    exact ih (i + 1) m s' (by omega) h2 (by omega)
theorem loopL0 {α S R : Type} {F : Nat → Int → S → Option R} {xs : List α} {spec : List α → S → Option R} (hl : xs.length < 1048576) {n : Nat} (hn : xs.length < n) (s : S) (h0 : ∀ m s, F (m + 1) (xs.length : Int) s = spec [] s)
    (hs : ∀ m (i : Nat) x l s, idx xs (i : Int) = some x → (i : Int) < (xs.length : Int) → i < 1048576 → xs.drop (i + 1) = l → (∀ s', F m (w64 ((i : Int) + 1)) s' = spec l s') → F (m + 1) (i : Int) s = spec (x :: l) s) :
    F n 0 s = spec xs s := loopL F xs spec hl h0 hs xs 0 n s (by omega) rfl hn
/-- The same, where something must stand. -/
theorem loopI {α S R : Type} (F : Nat → Int → S → Option R) (xs : List α) (spec : List α → S → Option R) (I : List α → S → Prop) (hl : xs.length < 1048576) (h0 : ∀ m s, I [] s → F (m + 1) (xs.length : Int) s = spec [] s)
    (hs : ∀ m (i : Nat) x l s, I (x :: l) s → idx xs (i : Int) = some x → (i : Int) < (xs.length : Int) → i < 1048576 → xs.drop (i + 1) = l → (∀ s', I l s' → F m (w64 ((i : Int) + 1)) s' = spec l s') → F (m + 1) (i : Int) s = spec (x :: l) s) :
    ∀ (l : List α) (i m : Nat) (s : S), i ≤ xs.length → xs.drop i = l → l.length < m → I l s → F m (i : Int) s = spec l s := by
  intro l
  induction l with
  | nil =>
    intro i m s hi hd hm hI
    obtain ⟨m, rfl⟩ : ∃ k, m = k + 1 := ⟨m - 1, by omega⟩
    have : i = xs.length := by have := List.drop_eq_nil_iff.1 hd; omega
    subst this
    exact h0 m s hI
  | cons x l ih =>
    intro i m s hi hd hm hI
    obtain ⟨m, rfl⟩ : ∃ k, m = k + 1 := ⟨m - 1, by omega⟩
    simp only [List.length_cons] at hm
    have hlt : i < xs.length := by
      rcases Nat.lt_or_ge i xs.length with h | h
      · exact h
      · rw [List.drop_eq_nil_of_le h] at hd; cases hd
    rw [List.drop_eq_getElem_cons hlt] at hd
    injection hd with h1 h2
    refine hs m i x l s hI (by rw [idx_nat hlt, h1]) (by omega) (by omega) h2 fun s' hI' => ?_
    rw [w64_id (by omega) (by omega)]
    exact ih (i + 1) m s' (by omega) h2 (by omega) hI'
theorem bnd_some {α β : Type} (a : α) (f : α → Option β) : Option.bind (some a) f = f a := rfl
theorem within_eq (a b c : Int) : coins_within a b c = some (inR a b c) := by
  unfold coins_within coins_within_j1 inR
  by_cases h : b ≤ a <;> simp [h]
theorem Within_eq (a b c : Int) : ref01_Within a b c = some (inR a b c) := by
  unfold ref01_Within ref01_Within_j1 inR
  by_cases h : b ≤ a <;> simp [h]
/-- Do numbers rise, behind another one. -/
def rise (lo hi : Int) : Option Int → List Int → Bool
  | _, [] => true
  | prev, x :: l => inR x lo hi && (match prev with | none => true | some y => decide (y < x)) && rise lo hi (some x) l
theorem nil_or_last (pre : List Int) : pre = [] ∨ ∃ q y, pre = q ++ [y] := by
  rcases List.eq_nil_or_concat pre with h | ⟨q, y, h⟩
  · exact .inl h
  · exact .inr ⟨q, y, by simpa using h⟩
theorem idx_last (q : List Int) (y : Int) (l : List Int) (h : (q ++ [y] ++ l).length < 1048576) : idx (q ++ [y] ++ l) (w64 (((q ++ [y]).length : Int) - 1)) = some y := by
  simp at h
  rw [w64_id (by simp <;> omega) (by simp <;> omega), show (((q ++ [y]).length : Int) - 1) = (q.length : Int) by simp, show q ++ [y] ++ l = q ++ y :: l by simp, idx_mid]
theorem Rising_l (lo hi : Int) : ∀ (l pre : List Int) (m : Nat), (pre ++ l).length < 1048576 → l.length < m →
    ref01_Rising_l1 (pre ++ l) lo hi m (pre.length : Int) = some (rise lo hi pre.getLast? l) := by
  intro l
  induction l with
  | nil =>
    intro pre m hs hm
    obtain ⟨m, rfl⟩ : ∃ k, m = k + 1 := ⟨m - 1, by omega⟩
    simp [ref01_Rising_l1, ref01_Rising_l1_b, ref01_Rising_j1, rise]
  | cons x l ih =>
    intro pre m hs hm
    obtain ⟨m, rfl⟩ : ∃ k, m = k + 1 := ⟨m - 1, by omega⟩
    have h := ih (pre ++ [x]) m (by simpa using hs) (by simp at hm; omega)
    rw [show (((pre ++ [x]).length : Nat) : Int) = (pre.length : Int) + 1 by simp, List.getLast?_concat, show pre ++ [x] ++ l = pre ++ x :: l by simp] at h
    simp at hs hm
    simp only [ref01_Rising_l1, ref01_Rising_l1_b]
    rw [if_pos (by simp <;> omega), idx_mid]
    simp only [Option.bind_some, Within_eq, rise]
    by_cases hr : inR x lo hi = true
    · rw [if_neg (by simp [hr])]
      rcases nil_or_last pre with rfl | ⟨q, y, rfl⟩
      · rw [if_neg (by simp)]
        simp only [ref01_Rising_j2]
        rw [if_neg (by simp), w64_id (by simp) (by simp), h]
        simp [hr]
      · rw [if_pos (by simp <;> omega), idx_last q y (x :: l) (by simp at hs ⊢; omega)]
        simp only [Option.bind_some, ref01_Rising_j2, List.getLast?_concat]
        by_cases hb : x ≤ y
        · rw [if_pos (by simpa using hb)]
          simp [hr, show ¬ y < x by omega]
        · rw [if_neg (by simpa using hb), w64_id (by omega) (by omega), h]
          simp [hr, show y < x by omega]
    · have hr' : inR x lo hi = false := by simpa using hr
      rw [if_pos (by simp [hr'])]
      simp [ref01_Rising_j2, hr']
theorem Rising_eq {n : Nat} (l : List Int) (lo hi : Int) (hs : l.length < 1048576) (hn : l.length < n) : ref01_Rising n l lo hi = some (rise lo hi none l) := Rising_l lo hi l [] n (by simpa using hs) hn
theorem rising_l (many most : Int) : ∀ (l pre : List Int) (m : Nat), (pre ++ l).length < 1048576 → l.length < m →
    coins_rising_l1 (pre ++ l) many most m (pre.length : Int) = some (rise 1 most pre.getLast? l && decide (((pre ++ l).length : Int) ≤ many)) := by
  intro l
  induction l with
  | nil =>
    intro pre m hs hm
    obtain ⟨m, rfl⟩ : ∃ k, m = k + 1 := ⟨m - 1, by omega⟩
    simp [coins_rising_l1, coins_rising_l1_b, coins_rising_j1, rise]
  | cons x l ih =>
    intro pre m hs hm
    obtain ⟨m, rfl⟩ : ∃ k, m = k + 1 := ⟨m - 1, by omega⟩
    have h := ih (pre ++ [x]) m (by simpa using hs) (by simp at hm; omega)
    rw [show (((pre ++ [x]).length : Nat) : Int) = (pre.length : Int) + 1 by simp, List.getLast?_concat, show pre ++ [x] ++ l = pre ++ x :: l by simp] at h
    simp at hs hm
    simp only [coins_rising_l1, coins_rising_l1_b]
    rw [if_pos (by simp <;> omega), idx_mid]
    simp only [Option.bind_some, within_eq, rise]
    by_cases hr : inR x 1 most = true
    · rw [if_neg (by simp [hr])]
      rcases nil_or_last pre with rfl | ⟨q, y, rfl⟩
      · rw [if_neg (by simp)]
        simp only [coins_rising_j2]
        rw [if_neg (by simp), w64_id (by simp) (by simp), h]
        simp [hr]
      · rw [if_pos (by simp <;> omega), idx_last q y (x :: l) (by simp at hs ⊢; omega)]
        simp only [Option.bind_some, coins_rising_j2, List.getLast?_concat]
        by_cases hb : x ≤ y
        · rw [if_pos (by simpa using hb)]
          simp [hr, show ¬ y < x by omega]
        · rw [if_neg (by simpa using hb), w64_id (by omega) (by omega), h]
          simp [hr, show y < x by omega]
    · have hr' : inR x 1 most = false := by simpa using hr
      rw [if_pos (by simp [hr'])]
      simp [coins_rising_j2, hr']
theorem rising_eq {n : Nat} (l : List Int) (many most : Int) (hs : l.length < 1048576) (hn : l.length < n) : coins_rising n l many most = some (rise 1 most none l && decide ((l.length : Int) ≤ many)) := rising_l many most l [] n (by simpa using hs) hn
/-- Is a wheel valid. -/
def valid (w : Wheel) : Bool := inR w.Round 1 200 && (rise 1 w.Round none w.Notches && decide ((w.Notches.length : Int) ≤ 12)) && (rise 1 100 none w.Coins && decide ((w.Coins.length : Int) ≤ 4))
def okLen (n : Nat) (w : Wheel) : Prop := w.Notches.length < 1048576 ∧ w.Coins.length < 1048576 ∧ w.Notches.length < n ∧ w.Coins.length < n
theorem Check_eq {n : Nat} {w : Wheel} (h : okLen n w) : coins_Check n w = some (cond (valid w) 0 10) := by
  obtain ⟨h1, h2, h3, h4⟩ := h
  unfold coins_Check coins_Check_j1 valid
  rw [within_eq, bnd_some, rising_eq _ _ _ h1 h3, rising_eq _ _ _ h2 h4, bnd_some, bnd_some]
  cases inR w.Round 1 200 <;> cases (rise 1 w.Round none w.Notches && decide ((w.Notches.length : Int) ≤ 12)) <;> cases (rise 1 100 none w.Coins && decide ((w.Coins.length : Int) ≤ 4)) <;> rfl
theorem rCheck_eq {n : Nat} {w : Wheel} (h : okLen n w) : ref01_Check n w = some (cond (valid w) 0 10) := by
  obtain ⟨h1, h2, h3, h4⟩ := h
  unfold ref01_Check ref01_Check_j1 valid
  rw [Within_eq, bnd_some, Rising_eq _ _ _ h1 h3, Rising_eq _ _ _ h2 h4, bnd_some, bnd_some]
  by_cases q1 : (w.Notches.length : Int) ≤ 12
  · have e1 : decide ((w.Notches.length : Int) > 12) = false := by simpa using q1
    rw [e1]
    by_cases q2 : (w.Coins.length : Int) ≤ 4
    · have e2 : decide ((w.Coins.length : Int) > 4) = false := by simpa using q2
      rw [e2]
      simp only [q1, q2, decide_true, Bool.and_true]
      cases inR w.Round 1 200 <;> cases rise 1 w.Round none w.Notches <;> cases rise 1 100 none w.Coins <;> rfl
    · have e2 : decide ((w.Coins.length : Int) > 4) = true := by simp; omega
      rw [e2]
      simp only [q2, decide_false, Bool.and_false]
      cases inR w.Round 1 200 <;> cases rise 1 w.Round none w.Notches <;> rfl
  · have e1 : decide ((w.Notches.length : Int) > 12) = true := by simp; omega
    rw [e1]
    simp only [q1, decide_false, Bool.and_false, Bool.false_and]
    cases inR w.Round 1 200 <;> rfl
theorem rise_mem {lo hi : Int} : ∀ {l : List Int} {p : Option Int}, rise lo hi p l = true → (∀ x, x ∈ l → lo ≤ x ∧ x ≤ hi ∧ ∀ y, p = some y → y < x) ∧ l.Pairwise (· < ·)
  | [], _, _ => ⟨fun x h => by simp at h, .nil⟩
  | x :: l, p, h => by
    simp only [rise, Bool.and_eq_true] at h
    obtain ⟨⟨h1, h2⟩, h3⟩ := h
    obtain ⟨ih1, ih2⟩ := rise_mem h3
    have h1' := inR_iff.1 h1
    have hp : ∀ y, p = some y → y < x := fun y e => by subst e; simpa using h2
    refine ⟨fun z hz => ?_, List.pairwise_cons.2 ⟨fun z hz => (ih1 z hz).2.2 x rfl, ih2⟩⟩
    rcases List.mem_cons.1 hz with rfl | hz
    · exact ⟨h1'.1, h1'.2, hp⟩
    · have := ih1 z hz
      exact ⟨this.1, this.2.1, fun y e => Int.lt_trans (hp y e) (this.2.2 x rfl)⟩
/-- What a valid wheel is. -/
structure OkW (w : Wheel) : Prop where
  r1 : 1 ≤ w.Round
  r2 : w.Round ≤ 200
  nlen : w.Notches.length ≤ 12
  clen : w.Coins.length ≤ 4
  nm : ∀ x, x ∈ w.Notches → 1 ≤ x ∧ x ≤ w.Round
  nd : w.Notches.Pairwise (· < ·)
  cm : ∀ x, x ∈ w.Coins → 1 ≤ x ∧ x ≤ 100
  cd : w.Coins.Pairwise (· < ·)
theorem valid_ok {w : Wheel} (h : valid w = true) : OkW w := by
  simp only [valid, Bool.and_eq_true, decide_eq_true_eq] at h
  obtain ⟨⟨h1, h2, h3⟩, h4, h5⟩ := h
  have h1 := inR_iff.1 h1
  obtain ⟨a1, a2⟩ := rise_mem h2
  obtain ⟨b1, b2⟩ := rise_mem h4
  exact ⟨h1.1, h1.2, by omega, by omega, fun x hx => ⟨(a1 x hx).1, (a1 x hx).2.1⟩, a2, fun x hx => ⟨(b1 x hx).1, (b1 x hx).2.1⟩, b2⟩
theorem OkW.len {w : Wheel} (h : OkW w) {n : Nat} (hn : 100 ≤ n) : okLen n w := ⟨by have := h.nlen; omega, by have := h.clen; omega, by have := h.nlen; omega, by have := h.clen; omega⟩

theorem In_eq {n : Nat} (l : List Int) (x : Int) (hs : l.length < 1048576) (hn : l.length < n) : ref01_In n l x = some (decide (x ∈ l)) := by
  have := loopL0 (F := fun m i (_ : Unit) => ref01_In_l1 l x m i) (xs := l) (spec := fun l _ => some (decide (x ∈ l))) (n := n) hs hn () (fun m s => by simp [ref01_In_l1, ref01_In_l1_b, ref01_In_j1]) (fun m i y l s hx hi _ _ hrec => by
    simp only [ref01_In_l1, ref01_In_l1_b]
    rw [if_pos (by simpa using hi), hx, bnd_some]
    by_cases h : y = x
    · rw [if_pos (by simpa using h)]
      simp [h]
    · rw [if_neg (by simpa using h), hrec ()]
      simp [Ne.symm h])
  exact this

/-! ### Cents -/
def nx (R p : Int) : Int := if p + 1 = R then 0 else p + 1
def hit (w : Wheel) (p : Int) : Int := if p + 1 ∈ w.Notches then 1 else 0
/-- The place and the plays after so many cents. -/
def put (w : Wheel) : Nat → Int → Int → Int × Int
  | 0, p, c => (p, c)
  | k + 1, p, c => put w k (nx w.Round p) (c + hit w p)
theorem nx_range {R p : Int} (h0 : 0 ≤ p) (h1 : p < R) : 0 ≤ nx R p ∧ nx R p < R := by
  unfold nx
  split <;> omega
theorem hit_range (w : Wheel) (p : Int) : 0 ≤ hit w p ∧ hit w p ≤ 1 := by
  unfold hit
  split <;> omega
theorem Put_l {n : Nat} {w : Wheel} (h : OkW w) (hn : 100 ≤ n) {cents : Nat} (hc : cents < 1048576) : ∀ (k i m : Nat) (p c : Int), k = cents - i → i ≤ cents → k < m → 0 ≤ p → p < w.Round → 0 ≤ c → c ≤ i →
    ref01_Put_l1 n w cents m p c (i : Int) = some (put w k p c) := by
  have hr := h.r2
  intro k
  induction k with
  | zero =>
    intro i m p c hk hi hm hp hp' hc0 hc1
    obtain ⟨m, rfl⟩ : ∃ k, m = k + 1 := ⟨m - 1, by omega⟩
    have : i = cents := by omega
    subst this
    simp [ref01_Put_l1, ref01_Put_l1_b, ref01_Put_j1, put]
  | succ k ih =>
    intro i m p c hk hi hm hp hp' hc0 hc1
    obtain ⟨m, rfl⟩ : ∃ k, m = k + 1 := ⟨m - 1, by omega⟩
    have hx := hit_range w p
    have hy := nx_range hp hp'
    have key := ih (i + 1) m (nx w.Round p) (c + hit w p) (by omega) (by omega) (by omega) hy.1 hy.2 (by omega) (by omega)
    simp only [ref01_Put_l1, ref01_Put_l1_b]
    rw [if_pos (by simp; omega), w64_id (by omega) (by omega), In_eq _ _ (by have := h.nlen; omega) (by have := h.nlen; omega), bnd_some]
    have e1 : w64 ((i : Int) + 1) = ((i + 1 : Nat) : Int) := by rw [w64_id (by omega) (by omega)]; simp
    have e2 : w64 (c + 1) = c + 1 := w64_id (by omega) (by omega)
    simp only [ref01_Put_j3, ref01_Put_j2, e1, e2, w64_id (x := p + 1) (by omega) (by omega)]
    show _ = some (put w k (nx w.Round p) (c + hit w p))
    rw [← key]
    unfold nx hit
    by_cases q1 : p + 1 ∈ w.Notches
    · rw [if_pos (by simpa using q1), if_pos q1]
      by_cases q2 : p + 1 = w.Round
      · rw [if_pos (by simpa using q2), if_pos q2]
      · rw [if_neg (by simpa using q2), if_neg q2]
    · rw [if_neg (by simpa using q1), if_neg q1, Int.add_zero]
      by_cases q2 : p + 1 = w.Round
      · rw [if_pos (by simpa using q2), if_pos q2]
      · rw [if_neg (by simpa using q2), if_neg q2]
theorem Put_eq {n : Nat} {w : Wheel} (h : OkW w) (hn : 100 ≤ n) {p c : Int} (hp : 0 ≤ p) (hp' : p < w.Round) (hc : 0 ≤ c) (hc' : c < n) (hc2 : c < 1048576) : ref01_Put n w p c = some (put w c.toNat p 0) := by
  have := Put_l h hn (cents := c.toNat) (by omega) c.toNat 0 n p 0 (by omega) (by omega) (by omega) hp hp' (by omega) (by omega)
  rw [show ((c.toNat : Nat) : Int) = c by omega] at this
  exact this
theorem put_range {w : Wheel} (h : OkW w) : ∀ (k : Nat) (p c : Int), 0 ≤ p → p < w.Round → (0 ≤ (put w k p c).1 ∧ (put w k p c).1 < w.Round) ∧ c ≤ (put w k p c).2 ∧ (put w k p c).2 ≤ c + k
  | 0, p, c, h0, h1 => ⟨⟨h0, h1⟩, by simp [put], by simp [put]⟩
  | k + 1, p, c, h0, h1 => by
    have hy := nx_range h0 h1
    have hx := hit_range w p
    have := put_range h k (nx w.Round p) (c + hit w p) hy.1 hy.2
    simp only [put]
    omega
theorem put_add (w : Wheel) : ∀ (j k : Nat) (p c : Int), put w (j + k) p c = put w k (put w j p c).1 (put w j p c).2
  | 0, k, p, c => by simp [put]
  | j + 1, k, p, c => by
    rw [show j + 1 + k = (j + k) + 1 by omega]
    simp only [put]
    exact put_add w j k _ _
/-! ### The notches that were reached -/
theorem ediv_succ {A R : Int} (hR : 0 < R) : (A + 1) / R = A / R + (if A % R = R - 1 then 1 else 0) := by
  have h1 := Int.mul_ediv_add_emod A R
  have h2 := Int.emod_nonneg A (show R ≠ 0 by omega)
  have h3 := Int.emod_lt_of_pos A hR
  split
  · rename_i h
    have : A + 1 = R * (A / R + 1) := by rw [Int.mul_add]; omega
    rw [this, Int.mul_ediv_cancel_left _ (by omega)]
  · rename_i h
    have : A + 1 = (A % R + 1) + R * (A / R) := by omega
    rw [this, Int.add_mul_ediv_left _ _ (by omega), Int.ediv_eq_zero_of_lt (by omega) (by omega)]
    omega
theorem emod_succ {A R : Int} (hR : 0 < R) : (A + 1) % R = nx R (A % R) := by
  have h1 := Int.mul_ediv_add_emod A R
  have h2 := Int.emod_nonneg A (show R ≠ 0 by omega)
  have h3 := Int.emod_lt_of_pos A hR
  unfold nx
  split
  · rename_i h
    have : A + 1 = R * (A / R + 1) := by rw [Int.mul_add]; omega
    rw [this, Int.mul_emod_right]
  · rename_i h
    have : A + 1 = (A % R + 1) + R * (A / R) := by omega
    rw [this, Int.add_mul_emod_self_left, Int.emod_eq_of_lt (by omega) (by omega)]
theorem emod_notch {B R m : Int} (hR : 0 < R) (h1 : 1 ≤ m) (h2 : m ≤ R) : (B - m + R) % R = R - 1 ↔ m = B % R + 1 := by
  have e1 := Int.mul_ediv_add_emod B R
  have e2 := Int.emod_nonneg B (show R ≠ 0 by omega)
  have e3 := Int.emod_lt_of_pos B hR
  by_cases h : m ≤ B % R
  · have : B - m + R = (B % R - m) + R * (B / R + 1) := by rw [Int.mul_add]; omega
    rw [this, Int.add_mul_emod_self_left, Int.emod_eq_of_lt (by omega) (by omega)]
    omega
  · have : B - m + R = (B % R - m + R) + R * (B / R) := by omega
    rw [this, Int.add_mul_emod_self_left, Int.emod_eq_of_lt (by omega) (by omega)]
    omega
/-- How often the notches are reached. -/
def reached (R e p : Int) : List Int → Int
  | [] => 0
  | m :: l => (e - m + R) / R - (p - m + R) / R + reached R e p l
def turn (w : Wheel) (p c : Int) : Int × Int := ((p + c) % w.Round, reached w.Round (p + c) p w.Notches)
theorem reached_succ {R B p : Int} (hR : 0 < R) : ∀ (l : List Int), (∀ x, x ∈ l → 1 ≤ x ∧ x ≤ R) → l.Pairwise (· < ·) → reached R (B + 1) p l = reached R B p l + (if B % R + 1 ∈ l then 1 else 0)
  | [], _, _ => by simp [reached]
  | m :: l, h, hd => by
    have hm := h m (by simp)
    obtain ⟨d1, d2⟩ := List.pairwise_cons.1 hd
    have ih := reached_succ (B := B) (p := p) hR l (fun x hx => h x (by simp [hx])) d2
    simp only [reached]
    rw [ih, show B + 1 - m + R = (B - m + R) + 1 by omega, ediv_succ hR]
    have hn := emod_notch (B := B) hR hm.1 hm.2
    by_cases q : m = B % R + 1
    · rw [if_pos (hn.2 q), if_pos (show B % R + 1 ∈ m :: l by simp [q]), if_neg (fun hx => by have := d1 _ hx; omega)]
      omega
    · rw [if_neg (fun hx => q (hn.1 hx))]
      by_cases q2 : B % R + 1 ∈ l
      · rw [if_pos q2, if_pos (by simp [q2])]
        omega
      · rw [if_neg q2, if_neg (by simp [q2]; omega)]
        omega
theorem reached_self {R p : Int} : ∀ (l : List Int), reached R p p l = 0
  | [] => rfl
  | m :: l => by simp only [reached]; rw [reached_self l]; omega
theorem put_turn {w : Wheel} (h : OkW w) {p : Int} (h0 : 0 ≤ p) (h1 : p < w.Round) : ∀ k : Nat, put w k p 0 = turn w p k
  | 0 => by
    unfold turn
    rw [show p + ((0 : Nat) : Int) = p by simp, reached_self, Int.emod_eq_of_lt h0 h1]
    rfl
  | k + 1 => by
    have hr := h.r1
    have ih := put_turn h h0 h1 k
    rw [put_add w k 1 p 0, ih]
    unfold turn
    simp only [put]
    rw [show p + ((k + 1 : Nat) : Int) = (p + k) + 1 by simp; omega, emod_succ (by omega), reached_succ (by omega) w.Notches h.nm h.nd]
    rfl
theorem turn_range {w : Wheel} (h : OkW w) {p c : Int} (h0 : 0 ≤ p) (h1 : p < w.Round) (hc : 0 ≤ c) : (0 ≤ (turn w p c).1 ∧ (turn w p c).1 < w.Round) ∧ 0 ≤ (turn w p c).2 ∧ (turn w p c).2 ≤ c := by
  have := put_range h c.toNat p 0 h0 h1
  rw [put_turn h h0 h1, show ((c.toNat : Nat) : Int) = c by omega] at this
  omega
theorem Put_turn {n : Nat} {w : Wheel} (h : OkW w) (hn : 100 ≤ n) {p c : Int} (hp : 0 ≤ p) (hp' : p < w.Round) (hc : 0 ≤ c) (hc' : c < n) (hc2 : c < 1048576) : ref01_Put n w p c = some (turn w p c) := by
  rw [Put_eq h hn hp hp' hc hc' hc2, put_turn h hp hp', show ((c.toNat : Nat) : Int) = c by omega]
theorem reached_part {R e p : Int} (hR : 0 < R) (h : p ≤ e) : ∀ l : List Int, 0 ≤ reached R e p l
  | [] => by simp [reached]
  | m :: l => by
    have := reached_part hR h l
    have h2 := Int.ediv_le_ediv hR (show p - m + R ≤ e - m + R by omega)
    simp only [reached]
    omega
theorem turn_eq {n : Nat} {w : Wheel} (h : OkW w) (hn : 100 ≤ n) {p c : Int} (hp : 0 ≤ p) (hp' : p < w.Round) (hc : 0 ≤ c) (hc2 : c < 1048576) : coins_wheel_turn n ⟨w⟩ p c = some (turn w p c) := by
  have hr := h.r1
  have hr2 := h.r2
  have hl := h.nlen
  have hfin := turn_range h hp hp' hc
  unfold turn at hfin
  simp only at hfin
  have e0 : w64 (p + c) = p + c := w64_id (by omega) (by omega)
  have key := loopI (F := fun m i s => coins_wheel_turn_l1 ⟨w⟩ p c m s i) (xs := w.Notches) (spec := fun l s => some ((p + c) % w.Round, s + reached w.Round (p + c) p l)) (I := fun l s => 0 ≤ s ∧ s + reached w.Round (p + c) p l ≤ c ∧ ∀ x, x ∈ l → 1 ≤ x ∧ x ≤ w.Round) (by omega)
    (fun m s hI => by simp [coins_wheel_turn_l1, coins_wheel_turn_l1_b, coins_wheel_turn_j1, reached, e0, rem_nn (show 0 ≤ p + c by omega) (show 0 < w.Round by omega)])
    (fun m i x l s hI hx hi _ _ hrec => by
      obtain ⟨i1, i2, i3⟩ := hI
      have hxm := i3 x (by simp)
      simp only [reached] at i2
      have hrl := reached_part (R := w.Round) (e := p + c) (p := p) (by omega) (by omega) l
      have hd1 := Int.ediv_nonneg (show 0 ≤ p + c - x + w.Round by omega) (show 0 ≤ w.Round by omega)
      have hd2 := Int.ediv_nonneg (show 0 ≤ p - x + w.Round by omega) (show 0 ≤ w.Round by omega)
      have hd3 := Int.ediv_le_self w.Round (show 0 ≤ p + c - x + w.Round by omega)
      have hd5 := Int.ediv_le_ediv (show 0 < w.Round by omega) (show p - x + w.Round ≤ p + c - x + w.Round by omega)
      simp only [coins_wheel_turn_l1, coins_wheel_turn_l1_b]
      rw [if_pos (by simpa using hi), hx, bnd_some, e0, w64_id (x := p + c - x) (by omega) (by omega), w64_id (x := p + c - x + w.Round) (by omega) (by omega), w64_id (x := p - x) (by omega) (by omega), w64_id (x := p - x + w.Round) (by omega) (by omega),
        quo_nn (by omega) (by omega) (by omega), quo_nn (by omega) (by omega) (by omega), bnd_some, bnd_some, w64_id (x := _ - _) (by omega) (by omega), w64_id (x := s + _) (by omega) (by omega),
        hrec _ ⟨by omega, by omega, fun y hy => i3 y (by simp [hy])⟩]
      simp only [reached]
      congr 2
      omega)
    w.Notches 0 n 0 (by omega) rfl (by omega) ⟨by omega, by omega, h.nm⟩
  have key : coins_wheel_turn_l1 ⟨w⟩ p c n 0 0 = _ := key
  unfold coins_wheel_turn
  rw [key]
  unfold turn
  rw [Int.zero_add]

/-- A stand of a wheel. -/
structure OkS (w : Wheel) (s : Stand) (b : Int) : Prop where
  p0 : 0 ≤ s.Place
  p1 : s.Place < w.Round
  c0 : 0 ≤ s.Credit
  c1 : s.Credit ≤ b
def okKind (w : Wheel) (a : Int) : Bool := inR a 0 (w.Coins.length - 1)
def coin (w : Wheel) (a : Int) : Int := w.Coins.getD a.toNat 0
theorem coin_idx {w : Wheel} {a : Int} (h0 : 0 ≤ a) (h1 : a ≤ w.Coins.length - 1) : idx w.Coins a = some (coin w a) := by
  obtain ⟨k, rfl⟩ : ∃ k : Nat, a = k := ⟨a.toNat, by omega⟩
  have hk : k < w.Coins.length := by omega
  rw [idx_nat hk]
  simp [coin, hk]
theorem coin_range {w : Wheel} (h : OkW w) {a : Int} (h0 : 0 ≤ a) (h1 : a ≤ w.Coins.length - 1) : 1 ≤ coin w a ∧ coin w a ≤ 100 := by
  obtain ⟨k, rfl⟩ : ∃ k : Nat, a = k := ⟨a.toNat, by omega⟩
  have hk : k < w.Coins.length := by omega
  have : coin w k = w.Coins[k] := by simp [coin, hk]
  rw [this]
  exact h.cm _ (List.getElem_mem hk)
/-! ### slices.ContainsFunc -/
theorem AreKinds_eq {n : Nat} {w : Wheel} (hw : w.Coins.length < 1048576) (l : List Int) (lo : Int) (hl : l.length < 1048576) (hn : l.length < n) : ref01_AreKinds n w l lo = some (l.all (fun x => inR x lo (w.Coins.length - 1)) && decide ((l.length : Int) ≤ 20)) := by
  have := loopL0 (F := fun m i (_ : Unit) => ref01_AreKinds_l1 w l lo m i) (xs := l) (spec := fun k _ => some (k.all (fun x => inR x lo (w.Coins.length - 1)) && decide ((l.length : Int) ≤ 20))) (n := n) hl hn () (fun m s => by simp [ref01_AreKinds_l1, ref01_AreKinds_l1_b, ref01_AreKinds_j1]) (fun m i x k s hx hi _ _ hrec => by
    simp only [ref01_AreKinds_l1, ref01_AreKinds_l1_b]
    rw [if_pos (by simpa using hi), hx, bnd_some, w64_id (by omega) (by omega), Within_eq, bnd_some]
    by_cases h : inR x lo (w.Coins.length - 1) = true
    · rw [if_neg (by simp [h]), hrec ()]
      simp [h]
    · rw [if_pos (by simpa using h)]
      simp [h])
  exact this
theorem isKind_eq {w : Wheel} (hw : w.Coins.length < 1048576) (x : Int) : coins_wheel_isKind ⟨w⟩ x = some (okKind w x) := by
  unfold coins_wheel_isKind okKind
  simp only []
  rw [w64_id (by omega) (by omega), within_eq, bnd_some]
def okPlace (w : Wheel) (p : Int) : Bool := inR p 0 (w.Round - 1)
theorem IsPlace_eq {w : Wheel} (h : OkW w) (p : Int) : ref01_IsPlace w p = some (okPlace w p) := by
  have := h.r1
  have := h.r2
  unfold ref01_IsPlace okPlace
  rw [w64_id (by omega) (by omega), Within_eq, bnd_some]
def zw : Wheel_ := ⟨⟨0, [], []⟩⟩
theorem open_eq {n : Nat} {w : Wheel} (hl : okLen n w) (aF : Wheel_ → Unit → Option (Bool × Unit)) (b : Bool) (ha : valid w = true → aF ⟨w⟩ () = some (b, ())) :
    coins_open n aF w () = some (cond (valid w) (cond b (((⟨w⟩ : Wheel_), 0), ()) ((zw, 1), ())) ((zw, 10), ())) := by
  unfold coins_open
  rw [Check_eq hl, bnd_some]
  cases hv : valid w with
  | false => rfl
  | true =>
    rw [ha hv]
    cases b <;> rfl
/-! ### Run -/
/-! ### Plays -/
theorem app_nil {α : Type} {l : List α} (h : l.length < 1048576) : app ([] : List α) l = some l := by rw [app_ok (by simp; omega)]; rfl
def farW (w : Wheel) : Bool := decide ((w.Notches.length : Int) > 40) || decide ((w.Coins.length : Int) > 40)
theorem far_eq (w : Wheel) : law01_far w = some (farW w) := by
  unfold law01_far law01_far_j1 farW
  by_cases h : (w.Notches.length : Int) > 40
  · rw [if_pos (by simpa using h)]; simp [h]
  · rw [if_neg (by simpa using h)]; simp [h]
theorem farW_len {w : Wheel} (h : farW w = false) {n : Nat} (hn : 100 ≤ n) : okLen n w := by
  simp only [farW, Bool.or_eq_false_iff, decide_eq_false_iff_not] at h
  exact ⟨by omega, by omega, by omega, by omega⟩

theorem isWheel_eq {n : Nat} (hn : 100 ≤ n) (w : Wheel) : law01_isWheel n w = some (!farW w && valid w) := by
  unfold law01_isWheel law01_isWheel_j1
  rw [far_eq, bnd_some]
  cases hf : farW w with
  | true => rfl
  | false =>
    rw [rCheck_eq (farW_len hf hn), bnd_some]
    cases valid w <;> rfl
/-! ### The whole round -/

def okSeen (w : Wheel) (x : Seen) : Bool := okKind w x.Kind && inR x.Plays 0 2400
/-- The place after coins that were seen. -/
def giv (w : Wheel) : Int → List Seen → Option Int
  | p, [] => some p
  | p, x :: l => if (turn w p (coin w x.Kind)).2 = x.Plays then giv w (turn w p (coin w x.Kind)).1 l else none
theorem giv_range {w : Wheel} (h : OkW w) : ∀ {l : List Seen} {p q : Int}, l.all (fun x => okKind w x.Kind) = true → 0 ≤ p → p < w.Round → giv w p l = some q → 0 ≤ q ∧ q < w.Round
  | [], p, q, _, h0, h1, hg => by
    simp only [giv, Option.some.injEq] at hg
    omega
  | x :: l, p, q, hl, h0, h1, hg => by
    simp only [List.all_cons, Bool.and_eq_true] at hl
    have hk := inR_iff.1 hl.1
    have hc := coin_range h hk.1 hk.2
    have ht := turn_range h h0 h1 (show 0 ≤ coin w x.Kind by omega)
    simp only [giv] at hg
    split at hg
    · exact giv_range h hl.2 ht.1.1 ht.1.2 hg
    · cases hg
theorem seen_kinds {w : Wheel} {l : List Seen} (h : l.all (okSeen w) = true) : l.all (fun x => okKind w x.Kind) = true := by
  rw [List.all_eq_true] at h ⊢
  intro x hx
  have := h x hx
  simp only [okSeen, Bool.and_eq_true] at this
  exact this.1
theorem gives_eq {n : Nat} {w : Wheel} (h : OkW w) (hn : 100 ≤ n) {l : List Seen} (hl : l.length < 1048576) (hn2 : l.length < n) (hk : l.all (fun x => okKind w x.Kind) = true) {p : Int} (h0 : 0 ≤ p) (h1 : p < w.Round) :
    coins_wheel_gives n ⟨w⟩ p l = some (match giv w p l with | some q => (q, true) | none => (0, false)) := by
  have key := loopI (F := fun m i p => coins_wheel_gives_l1 n ⟨w⟩ l m p i) (xs := l) (spec := fun k p => some (match giv w p k with | some q => (q, true) | none => (0, false))) (I := fun k p => k.all (fun x => okKind w x.Kind) = true ∧ 0 ≤ p ∧ p < w.Round) hl
    (fun m p hI => by simp [coins_wheel_gives_l1, coins_wheel_gives_l1_b, coins_wheel_gives_j1, giv])
    (fun m i x k p hI hx hi _ _ hrec => by
      obtain ⟨i1, i2, i3⟩ := hI
      simp only [List.all_cons, Bool.and_eq_true] at i1
      have hk := inR_iff.1 i1.1
      have hc := coin_range h hk.1 hk.2
      have ht := turn_range h i2 i3 (show 0 ≤ coin w x.Kind by omega)
      simp only [coins_wheel_gives_l1, coins_wheel_gives_l1_b]
      rw [if_pos (by simpa using hi), hx, bnd_some, coin_idx hk.1 hk.2, bnd_some, turn_eq h hn i2 i3 (by omega) (by omega), bnd_some]
      by_cases hq : (turn w p (coin w x.Kind)).2 = x.Plays
      · rw [if_neg (by simpa using hq), hrec _ ⟨i1.2, ht.1.1, ht.1.2⟩]
        simp [giv, hq]
      · rw [if_pos (by simpa using hq)]
        simp [giv, hq])
    l 0 n p (by omega) rfl hn2 ⟨hk, h0, h1⟩
  exact key
theorem allS {n : Nat} (f : Seen → Option Bool) (g : Seen → Bool) (xs : List Seen) (hf : ∀ x, x ∈ xs → f x = some (g x)) (hl : xs.length < 1048576) (hn : xs.length < n) :
    coins_all_apiSeen n (fun x (_ : Unit) => (f x).map fun y => (y, ())) xs () = some (decide ((xs.length : Int) ≤ 20) && xs.all g, ()) := by
  have key : ∀ (l : List Seen) (i m : Nat) (s : Unit), i ≤ xs.length → xs.drop i = l → l.length < m → (slices_IndexFunc_apiSeen_l1 xs (coins_all_apiSeen_c1 (fun x (_ : Unit) => (f x).map fun y => (y, ()))) m (i : Int) s).map (fun r => decide (r.1 ≥ 0)) = some (!l.all g) := by
    intro l i m s h1 h2 h3
    refine loopL (fun m i s => (slices_IndexFunc_apiSeen_l1 xs (coins_all_apiSeen_c1 (fun x (_ : Unit) => (f x).map fun y => (y, ()))) m i s).map (fun r => decide (r.1 ≥ 0))) xs (fun l _ => some (!l.all g)) hl (fun m s => ?_) (fun m i x l s hx hi _ _ hrec => ?_) l i m s h1 h2 h3
    · simp [slices_IndexFunc_apiSeen_l1, slices_IndexFunc_apiSeen_l1_b, slices_IndexFunc_apiSeen_j1]
    · have hmem : x ∈ xs := by
        unfold idx at hx
        rw [if_pos (by omega)] at hx
        exact List.mem_of_getElem? hx
      simp only [slices_IndexFunc_apiSeen_l1, slices_IndexFunc_apiSeen_l1_b]
      rw [if_pos (by simpa using hi), hx, bnd_some]
      simp only [coins_all_apiSeen_c1, hf x hmem, Option.map_some, bnd_some]
      by_cases hg : g x = true
      · rw [if_neg (by simp [hg])]
        have := hrec ()
        rw [this]
        simp [hg]
      · rw [if_pos (by simpa using hg)]
        simp [hg]
  have h := key xs 0 n () (by omega) rfl hn
  unfold coins_all_apiSeen coins_all_apiSeen_j1
  by_cases hq : (xs.length : Int) ≤ 20
  · rw [if_pos (by simpa using hq)]
    unfold slices_ContainsFunc_apiSeen slices_IndexFunc_apiSeen
    change Option.map _ (slices_IndexFunc_apiSeen_l1 xs _ n 0 ()) = _ at h
    cases hx : slices_IndexFunc_apiSeen_l1 xs (coins_all_apiSeen_c1 (fun x (_ : Unit) => (f x).map fun y => (y, ()))) n 0 () with
    | none => rw [hx] at h; cases h
    | some r =>
      rw [hx] at h
      simp only [Option.map_some, Option.some.injEq] at h
      simp only [bnd_some]
      rw [h]
      simp [hq]
  · rw [if_neg (by simpa using hq)]
    simp [hq]
theorem stood_c1_eq {n : Nat} {w : Wheel} (hw : w.Coins.length < 1048576) (l : List Seen) (hl : l.length < 1048576) (hn : l.length < n) : coins_stood_c1 n ⟨w⟩ l = some (decide ((l.length : Int) ≤ 20) && l.all (okSeen w)) := by
  unfold coins_stood_c1
  rw [allS (fun x => coins_stood_c1_c1 x ⟨w⟩) (okSeen w) l (fun x _ => by
    unfold coins_stood_c1_c1 coins_stood_c1_c1_j1 okSeen
    rw [isKind_eq hw, bnd_some, within_eq, bnd_some]
    cases okKind w x.Kind <;> rfl) hl hn]
  rfl
/-- The places from i on that give what was seen; where the wheel stands then. -/
def spots (w : Wheel) (l : List Seen) : Nat → Nat → List Int
  | _, 0 => []
  | i, d + 1 => (if (giv w i l).isSome then [(i : Int)] else []) ++ spots w l (i + 1) d
def afters (w : Wheel) (l : List Seen) : Nat → Nat → List Int
  | _, 0 => []
  | i, d + 1 => (giv w i l).toList ++ afters w l (i + 1) d
theorem spots_len (w : Wheel) (l : List Seen) : ∀ d i, (spots w l i d).length ≤ d
  | 0, i => by simp [spots]
  | d + 1, i => by
    have := spots_len w l d (i + 1)
    simp only [spots, List.length_append]
    split <;> simp <;> omega
theorem afters_spots (w : Wheel) (l : List Seen) : ∀ d i, afters w l i d = (spots w l i d).map (fun p => (giv w p l).getD (-1))
  | 0, i => rfl
  | d + 1, i => by
    simp only [afters, spots, List.map_append]
    rw [afters_spots w l d (i + 1)]
    cases h : giv w (i : Int) l <;> simp [h]
theorem spots_mem {w : Wheel} {l : List Seen} : ∀ {d i : Nat} {p : Int}, p ∈ spots w l i d ↔ (i : Int) ≤ p ∧ p < i + d ∧ (giv w p l).isSome = true
  | 0, i, p => by simp [spots]; omega
  | d + 1, i, p => by
    simp only [spots, List.mem_append]
    rw [spots_mem (d := d) (i := i + 1)]
    constructor
    · rintro (h | ⟨h1, h2, h3⟩)
      · split at h
        · rename_i hs
          simp at h
          subst h
          exact ⟨by omega, by simp; omega, hs⟩
        · simp at h
      · simp at h1 h2 ⊢
        exact ⟨by omega, by omega, h3⟩
    · rintro ⟨h1, h2, h3⟩
      by_cases h : p = i
      · subst h
        left
        rw [if_pos h3]
        simp
      · right
        simp at h2 ⊢
        exact ⟨by omega, by omega, h3⟩
theorem c2_could {n : Nat} {w : Wheel} (h : OkW w) (hn : 300 ≤ n) {l : List Seen} (hl : l.length < 1048576) (hn2 : l.length < n) (hk : l.all (fun x => okKind w x.Kind) = true) : ∀ (d i m : Nat) (s : List Int), (i : Int) + d = w.Round → d < m → s.length + d ≤ 1048576 →
    coins_stood_c2_l1 n coins_Could_r1 ⟨w⟩ l m (i : Int) s = some ((), s ++ spots w l i d) := by
  have hr := h.r2
  intro d
  induction d with
  | zero =>
    intro i m s hi hm hs
    obtain ⟨m, rfl⟩ : ∃ k, m = k + 1 := ⟨m - 1, by omega⟩
    simp only [coins_stood_c2_l1, coins_stood_c2_l1_b]
    rw [if_neg (by simp; omega)]
    simp [spots]
  | succ d ih =>
    intro i m s hi hm hs
    obtain ⟨m, rfl⟩ : ∃ k, m = k + 1 := ⟨m - 1, by omega⟩
    simp only [coins_stood_c2_l1, coins_stood_c2_l1_b]
    rw [if_pos (by simp; omega), gives_eq h (by omega) hl hn2 hk (by omega) (by omega), bnd_some]
    have e : w64 ((i : Int) + 1) = ((i + 1 : Nat) : Int) := by rw [w64_id (by omega) (by omega)]; simp
    cases hg : giv w (i : Int) l with
    | none =>
      simp only [Bool.false_eq_true, if_false, coins_stood_c2_j1]
      rw [e, ih (i + 1) m s (by simp; omega) (by omega) (by omega)]
      simp [spots, hg]
    | some q =>
      simp only [if_true, coins_Could_r1]
      rw [app_ok (by simp; omega), bnd_some]
      simp only [bnd_some, coins_stood_c2_j1, Bool.not_true, Bool.false_eq_true, if_false]
      rw [e, ih (i + 1) m _ (by simp; omega) (by omega) (by simp; omega)]
      simp [spots, hg]
theorem c2_now {n : Nat} {w : Wheel} (h : OkW w) (hn : 300 ≤ n) {l : List Seen} (hl : l.length < 1048576) (hn2 : l.length < n) (hk : l.all (fun x => okKind w x.Kind) = true) : ∀ (d i m : Nat) (s : List Int), (i : Int) + d = w.Round → d < m → s.length + d ≤ 1048576 →
    coins_stood_c2_l1 n coins_Now_r1 ⟨w⟩ l m (i : Int) s = some ((), s ++ afters w l i d) := by
  have hr := h.r2
  intro d
  induction d with
  | zero =>
    intro i m s hi hm hs
    obtain ⟨m, rfl⟩ : ∃ k, m = k + 1 := ⟨m - 1, by omega⟩
    simp only [coins_stood_c2_l1, coins_stood_c2_l1_b]
    rw [if_neg (by simp; omega)]
    simp [afters]
  | succ d ih =>
    intro i m s hi hm hs
    obtain ⟨m, rfl⟩ : ∃ k, m = k + 1 := ⟨m - 1, by omega⟩
    simp only [coins_stood_c2_l1, coins_stood_c2_l1_b]
    rw [if_pos (by simp; omega), gives_eq h (by omega) hl hn2 hk (by omega) (by omega), bnd_some]
    have e : w64 ((i : Int) + 1) = ((i + 1 : Nat) : Int) := by rw [w64_id (by omega) (by omega)]; simp
    cases hg : giv w (i : Int) l with
    | none =>
      simp only [Bool.false_eq_true, if_false, coins_stood_c2_j1]
      rw [e, ih (i + 1) m s (by simp; omega) (by omega) (by omega)]
      simp [afters, hg]
    | some q =>
      simp only [if_true, coins_Now_r1]
      rw [app_ok (by simp; omega), bnd_some]
      simp only [bnd_some, coins_stood_c2_j1, Bool.not_true, Bool.false_eq_true, if_false]
      rw [e, ih (i + 1) m _ (by simp; omega) (by omega) (by simp; omega)]
      simp [afters, hg]
theorem c2_stood {n : Nat} {w : Wheel} (h : OkW w) (hn : 300 ≤ n) {l : List Seen} (hl : l.length < 1048576) (hn2 : l.length < n) (hk : l.all (fun x => okKind w x.Kind) = true) : ∀ (d i m : Nat), (i : Int) + d = w.Round → d < m →
    coins_stood_c2_l1 n (coins_stood_r1 l ((⟨w⟩, 0), ())) ⟨w⟩ l m (i : Int) (none, false) = some ((), if spots w l i d = [] then (none, false) else (some (⟨w⟩, l), true)) := by
  have hr := h.r2
  intro d
  induction d with
  | zero =>
    intro i m hi hm
    obtain ⟨m, rfl⟩ : ∃ k, m = k + 1 := ⟨m - 1, by omega⟩
    simp only [coins_stood_c2_l1, coins_stood_c2_l1_b]
    rw [if_neg (by simp; omega)]
    simp [spots]
  | succ d ih =>
    intro i m hi hm
    obtain ⟨m, rfl⟩ : ∃ k, m = k + 1 := ⟨m - 1, by omega⟩
    simp only [coins_stood_c2_l1, coins_stood_c2_l1_b]
    rw [if_pos (by simp; omega), gives_eq h (by omega) hl hn2 hk (by omega) (by omega), bnd_some]
    have e : w64 ((i : Int) + 1) = ((i + 1 : Nat) : Int) := by rw [w64_id (by omega) (by omega)]; simp
    cases hg : giv w (i : Int) l with
    | none =>
      simp only [Bool.false_eq_true, if_false, coins_stood_c2_j1]
      rw [e, ih (i + 1) m (by simp; omega) (by omega)]
      simp [spots, hg]
    | some q =>
      simp [coins_stood_r1, coins_stood_c2_j1, spots, hg]
theorem places0 {w : Wheel} (h : OkW w) : ((0 : Nat) : Int) + (w.Round.toNat : Nat) = w.Round := by have := h.r1; omega
def okSeens (w : Wheel) (l : List Seen) : Bool := decide ((l.length : Int) ≤ 20) && l.all (okSeen w)
def couldS (w : Wheel) (l : List Seen) : List Int × Int :=
  if valid w = true then (if okSeens w l = true then (if spots w l 0 w.Round.toNat = [] then ([], 3) else (spots w l 0 w.Round.toNat, 0)) else ([], 1)) else ([], 10)
theorem stood_eq {n : Nat} {w : Wheel} (hl : okLen n w) (hn : 300 ≤ n) {l : List Seen} (h1 : l.length < 1048576) (h2 : l.length < n) :
    coins_stood n w l = some (if (couldS w l).2 = 0 then (some (⟨w⟩, l), 0) else (none, (couldS w l).2)) := by
  unfold coins_stood couldS
  rw [open_eq hl _ (okSeens w l) (fun hv => ?_), bnd_some]
  · cases hv : valid w with
    | false => rfl
    | true =>
      have h := valid_ok hv
      cases ho : okSeens w l with
      | false => rfl
      | true =>
        have hk := seen_kinds (Bool.and_eq_true _ _ ▸ ho).2
        simp only [cond_true, bne_self_eq_false, Bool.false_eq_true, if_false, if_true]
        have hs := c2_stood h hn h1 h2 hk w.Round.toNat 0 n (places0 h) (by have := h.r2; omega)
        unfold coins_stood_c2
        replace hs : coins_stood_c2_l1 n (coins_stood_r1 l ((⟨w⟩, 0), ())) ⟨w⟩ l n 0 (none, false) = _ := hs
        rw [hs, bnd_some]
        by_cases q : spots w l 0 w.Round.toNat = []
        · rw [if_pos q, if_pos q]; rfl
        · rw [if_neg q, if_neg q]; rfl
  · show (coins_stood_c1 n ⟨w⟩ l).map (fun y => (y, ())) = _
    rw [stood_c1_eq hl.2.1 l h1 h2]
    rfl
theorem couldS_ok {w : Wheel} {l : List Seen} (h : (couldS w l).2 = 0) : valid w = true ∧ okSeens w l = true ∧ couldS w l = (spots w l 0 w.Round.toNat, 0) ∧ spots w l 0 w.Round.toNat ≠ [] := by
  unfold couldS at h ⊢
  by_cases q1 : valid w = true
  · rw [if_pos q1] at h ⊢
    by_cases q2 : okSeens w l = true
    · rw [if_pos q2] at h ⊢
      by_cases q3 : spots w l 0 w.Round.toNat = []
      · rw [if_pos q3] at h; simp at h
      · rw [if_neg q3]
        exact ⟨q1, q2, rfl, q3⟩
    · rw [if_neg q2] at h; simp at h
  · rw [if_neg q1] at h; simp at h
theorem couldS_err {w : Wheel} {l : List Seen} (h : (couldS w l).2 ≠ 0) : couldS w l = ([], (couldS w l).2) := by
  unfold couldS at h ⊢
  by_cases q1 : valid w = true
  · rw [if_pos q1] at h ⊢
    by_cases q2 : okSeens w l = true
    · rw [if_pos q2] at h ⊢
      by_cases q3 : spots w l 0 w.Round.toNat = []
      · rw [if_pos q3]
      · rw [if_neg q3] at h; simp at h
    · rw [if_neg q2]
  · rw [if_neg q1]
theorem Could_eq {n : Nat} {w : Wheel} (hl : okLen n w) (hn : 300 ≤ n) {l : List Seen} (h1 : l.length < 1048576) (h2 : l.length < n) : coins_Could n w l = some (couldS w l) := by
  unfold coins_Could
  rw [stood_eq hl hn h1 h2, bnd_some]
  by_cases q : (couldS w l).2 = 0
  · obtain ⟨hv, ho, hc, _⟩ := couldS_ok q
    have h := valid_ok hv
    have hk := seen_kinds (Bool.and_eq_true _ _ ▸ ho).2
    rw [if_pos q]
    simp only [bne_self_eq_false, Bool.false_eq_true, if_false, bnd_some]
    have hs := c2_could h hn h1 h2 hk w.Round.toNat 0 n [] (places0 h) (by have := h.r2; omega) (by have := h.r2; simp; omega)
    unfold coins_stood_c2
    rw [show (0 : Int) = ((0 : Nat) : Int) from rfl, hs, bnd_some, hc]
    rfl
  · rw [if_neg q, couldS_err q]
    simp [q]
def nowS (w : Wheel) (l : List Seen) : List Int × Int := if (couldS w l).2 = 0 then (uniqF none (isort (afters w l 0 w.Round.toNat)), 0) else ([], (couldS w l).2)
theorem Now_eq {n : Nat} {w : Wheel} (hl : okLen n w) (hn : 300 ≤ n) {l : List Seen} (h1 : l.length < 1048576) (h2 : l.length < n) : coins_Now n w l = some (nowS w l) := by
  unfold coins_Now nowS
  rw [stood_eq hl hn h1 h2, bnd_some]
  by_cases q : (couldS w l).2 = 0
  · obtain ⟨hv, ho, hc, _⟩ := couldS_ok q
    have h := valid_ok hv
    have hk := seen_kinds (Bool.and_eq_true _ _ ▸ ho).2
    have hsl := spots_len w l w.Round.toNat 0
    have hr := h.r2
    rw [if_pos q, if_pos q]
    simp only [bne_self_eq_false, Bool.false_eq_true, if_false, bnd_some]
    have hs := c2_now h hn h1 h2 hk w.Round.toNat 0 n [] (places0 h) (by omega) (by simp; omega)
    unfold coins_stood_c2
    rw [show (0 : Int) = ((0 : Nat) : Int) from rfl, hs, bnd_some]
    simp only [List.nil_append]
    rw [if_pos (by rw [afters_spots]; simp; omega)]
  · rw [if_neg q, if_neg q]
    simp [q]
/-! ### The reference -/
/-- Those of a list, in order. -/
def inOrder (k : List Int) : Nat → Nat → List Int
  | _, 0 => []
  | i, d + 1 => (if (i : Int) ∈ k then [(i : Int)] else []) ++ inOrder k (i + 1) d
theorem inOrder_mem {k : List Int} : ∀ {d i : Nat} {p : Int}, p ∈ inOrder k i d ↔ (i : Int) ≤ p ∧ p < i + d ∧ p ∈ k
  | 0, i, p => by simp [inOrder]; omega
  | d + 1, i, p => by
    simp only [inOrder, List.mem_append]
    rw [inOrder_mem (d := d) (i := i + 1)]
    constructor
    · rintro (h | ⟨h1, h2, h3⟩)
      · split at h
        · rename_i hs
          simp at h
          subst h
          exact ⟨by omega, by simp; omega, hs⟩
        · simp at h
      · simp at h1 h2 ⊢
        exact ⟨by omega, by omega, h3⟩
    · rintro ⟨h1, h2, h3⟩
      by_cases h : p = i
      · subst h
        left
        rw [if_pos h3]
        simp
      · right
        simp at h2 ⊢
        exact ⟨by omega, by omega, h3⟩
theorem inOrder_lt (k : List Int) : ∀ d i, (inOrder k i d).Pairwise (· < ·)
  | 0, i => .nil
  | d + 1, i => by
    simp only [inOrder]
    refine List.pairwise_append.2 ⟨by split <;> simp, inOrder_lt k d (i + 1), fun x hx y hy => ?_⟩
    have hy := (inOrder_mem.1 hy).1
    split at hx
    · simp at hx
      subst hx
      simp at hy
      omega
    · simp at hx
theorem uniqF_ok : ∀ (k : List Int) (p : Option Int), k.Pairwise (· ≤ ·) → (∀ y, p = some y → ∀ x, x ∈ k → y ≤ x) → (uniqF p k).Pairwise (· < ·) ∧ ∀ x, x ∈ uniqF p k ↔ x ∈ k ∧ p ≠ some x
  | [], p, _, _ => by simp [uniqF]
  | z :: k, p, hs, hp => by
    obtain ⟨h1, h2⟩ := List.pairwise_cons.1 hs
    obtain ⟨i1, i2⟩ := uniqF_ok k (some z) h2 (fun y e x hx => by injection e with e; subst e; exact h1 x hx)
    simp only [uniqF]
    by_cases q : p = some z
    · rw [if_pos q]
      refine ⟨i1, fun x => ?_⟩
      rw [i2, q]
      simp only [List.mem_cons, ne_eq, Option.some.injEq]
      constructor
      · rintro ⟨a, b⟩; exact ⟨.inr a, b⟩
      · rintro ⟨a | a, b⟩
        · exact absurd a.symm b
        · exact ⟨a, b⟩
    · rw [if_neg q]
      refine ⟨List.pairwise_cons.2 ⟨fun x hx => ?_, i1⟩, fun x => ?_⟩
      · have := (i2 x).1 hx
        have h3 := h1 x this.1
        have h4 : z ≠ x := fun e => this.2 (by rw [e])
        omega
      · rw [List.mem_cons, List.mem_cons, i2]
        constructor
        · rintro (rfl | ⟨a, b⟩)
          · exact ⟨.inl rfl, q⟩
          · refine ⟨.inr a, fun e => ?_⟩
            have h3 := hp x e z (by simp)
            have h4 := h1 x a
            exact b (by rw [show z = x by omega])
        · rintro ⟨a | a, b⟩
          · exact .inl a
          · by_cases e : x = z
            · exact .inl e
            · exact .inr ⟨a, fun h => e (by injection h with h; exact h.symm)⟩
theorem lt_lists {a b : List Int} (ha : a.Pairwise (· < ·)) (hb : b.Pairwise (· < ·)) (h : ∀ x, x ∈ a ↔ x ∈ b) : a = b := by
  refine sorted_eq ((List.perm_ext_iff_of_nodup ?_ ?_).2 h) (ha.imp fun h => by omega) (hb.imp fun h => by omega)
  · exact ha.imp fun h => by omega
  · exact hb.imp fun h => by omega
theorem uniq_order {k : List Int} {d : Nat} (h : ∀ x, x ∈ k → 0 ≤ x ∧ x < d) : uniqF none (isort k) = inOrder k 0 d := by
  obtain ⟨h1, h2⟩ := uniqF_ok (isort k) none (isort_sorted k) (fun y e => by cases e)
  refine lt_lists h1 (inOrder_lt k d 0) fun x => ?_
  rw [h2, inOrder_mem, (isort_perm k).mem_iff]
  constructor
  · rintro ⟨a, _⟩
    have := h x a
    exact ⟨by simp; omega, by simp; omega, a⟩
  · rintro ⟨_, _, a⟩
    exact ⟨a, by simp⟩
theorem afters_range {w : Wheel} (h : OkW w) {l : List Seen} (hk : l.all (fun x => okKind w x.Kind) = true) : ∀ x, x ∈ afters w l 0 w.Round.toNat → 0 ≤ x ∧ x < w.Round.toNat := by
  intro x hx
  rw [afters_spots] at hx
  obtain ⟨p, hp, rfl⟩ := List.mem_map.1 hx
  obtain ⟨a, b, c⟩ := spots_mem.1 hp
  obtain ⟨q, hq⟩ := Option.isSome_iff_exists.1 c
  have := giv_range h hk (by simpa using a) (by omega) hq
  rw [hq]
  simp only [Option.getD_some]
  omega
theorem uniqF_len : ∀ (k : List Int) (p : Option Int), (uniqF p k).length ≤ k.length
  | [], p => by simp [uniqF]
  | x :: k, p => by
    have := uniqF_len k (some x)
    simp only [uniqF]
    split <;> simp <;> omega
theorem nowS_len (w : Wheel) (l : List Seen) : (nowS w l).1.length ≤ w.Round.toNat := by
  unfold nowS
  split
  · have h1 := uniqF_len (isort (afters w l 0 w.Round.toNat)) none
    have e : (afters w l 0 w.Round.toNat).length = (spots w l 0 w.Round.toNat).length := by rw [afters_spots, List.length_map]
    rw [(isort_perm _).length_eq, e] at h1
    have := spots_len w l w.Round.toNat 0
    simp only
    omega
  · simp
theorem couldS_len (w : Wheel) (l : List Seen) : (couldS w l).1.length ≤ w.Round.toNat := by
  have := spots_len w l w.Round.toNat 0
  unfold couldS
  split
  · split
    · split <;> simp <;> omega
    · simp
  · simp
theorem couldS_small {w : Wheel} {l : List Seen} : (couldS w l).1.length ≤ 200 ∧ (nowS w l).1.length ≤ 200 := by
  have h1 := couldS_len w l
  have h2 := nowS_len w l
  by_cases q : valid w = true
  · have := (valid_ok q).r2
    omega
  · have e : couldS w l = ([], 10) := by unfold couldS; rw [if_neg q]
    have e2 : nowS w l = ([], 10) := by unfold nowS; rw [e]; rfl
    rw [e, e2]
    simp

/-- What coins of some kinds give, and the place then. -/
def whatS (w : Wheel) : Int → List Int → List Seen × Int
  | p, [] => ([], p)
  | p, k :: l => (⟨k, (turn w p (coin w k)).2⟩ :: (whatS w (turn w p (coin w k)).1 l).1, (whatS w (turn w p (coin w k)).1 l).2)
theorem whatS_len (w : Wheel) : ∀ (l : List Int) (p : Int), (whatS w p l).1.length = l.length
  | [], p => rfl
  | k :: l, p => by simp only [whatS, List.length_cons]; rw [whatS_len w l]
theorem What_eq {n : Nat} {w : Wheel} (h : OkW w) (hn : 200 ≤ n) {l : List Int} (hl : l.length < 100000) (hn2 : l.length < n) (hk : l.all (okKind w) = true) {p : Int} (h0 : 0 ≤ p) (h1 : p < w.Round) : ref01_What n w p l = some (whatS w p l) := by
  have key := loopI (F := fun m i (q : Int × List Seen) => ref01_What_l1 n w l m q.1 q.2 i) (xs := l) (spec := fun k q => some (q.2 ++ (whatS w q.1 k).1, (whatS w q.1 k).2)) (I := fun k q => k.all (okKind w) = true ∧ (0 ≤ q.1 ∧ q.1 < w.Round) ∧ q.2.length + k.length ≤ 1048576) (by omega)
    (fun m q hI => by simp [ref01_What_l1, ref01_What_l1_b, ref01_What_j1, whatS])
    (fun m i x k q hI hx hi _ _ hrec => by
      obtain ⟨i1, i2, i3⟩ := hI
      simp only [List.all_cons, Bool.and_eq_true, List.length_cons] at i1 i3
      have hk := inR_iff.1 i1.1
      have hc := coin_range h hk.1 hk.2
      have ht := turn_range h i2.1 i2.2 (show 0 ≤ coin w x by omega)
      simp only [ref01_What_l1, ref01_What_l1_b]
      rw [if_pos (by simpa using hi), hx, bnd_some, coin_idx hk.1 hk.2, bnd_some, Put_turn h (by omega) i2.1 i2.2 (by omega) (by omega) (by omega), bnd_some, bnd_some, app_ok (by simp; omega), bnd_some]
      have := hrec ((turn w q.1 (coin w x)).1, q.2 ++ [⟨x, (turn w q.1 (coin w x)).2⟩]) ⟨i1.2, ht.1, by simp; omega⟩
      simp only at this
      rw [this]
      simp [whatS])
    l 0 n (p, []) (by omega) rfl hn2 ⟨hk, ⟨h0, h1⟩, by simp; omega⟩
  have key : ref01_What_l1 n w l n p [] 0 = _ := key
  unfold ref01_What
  rw [key]
  simp
theorem whatS_ok {w : Wheel} (h : OkW w) : ∀ {l : List Int} {p : Int}, l.all (okKind w) = true → 0 ≤ p → p < w.Round → (whatS w p l).1.all (okSeen w) = true ∧ giv w p (whatS w p l).1 = some (whatS w p l).2
  | [], p, _, h0, h1 => by simp [whatS, giv]
  | k :: l, p, hl, h0, h1 => by
    simp only [List.all_cons, Bool.and_eq_true] at hl
    have hk := inR_iff.1 hl.1
    have hc := coin_range h hk.1 hk.2
    have ht := turn_range h h0 h1 (show 0 ≤ coin w k by omega)
    obtain ⟨i1, i2⟩ := whatS_ok h hl.2 ht.1.1 ht.1.2
    simp only [whatS, List.all_cons, i1, Bool.and_true, giv, if_true, i2, and_true]
    show (okKind w k && inR (turn w p (coin w k)).2 0 2400) = true
    rw [hl.1]
    exact inR_iff.2 ⟨ht.2.1, by omega⟩
theorem giv_app (w : Wheel) : ∀ (a b : List Seen) (p : Int), giv w p (a ++ b) = (giv w p a).bind fun q => giv w q b
  | [], b, p => rfl
  | x :: a, b, p => by
    simp only [List.cons_append, giv]
    split
    · exact giv_app w a b _
    · rfl
theorem giv_take {w : Wheel} {l : List Seen} {p : Int} (k : Nat) (h : (giv w p l).isSome = true) : (giv w p (l.take k)).isSome = true := by
  have e := giv_app w (l.take k) (l.drop k) p
  rw [List.take_append_drop] at e
  rw [e] at h
  cases hg : giv w p (l.take k) with
  | none => rw [hg] at h; cases h
  | some q => rfl
theorem could_in {w : Wheel} (h : OkW w) (hv : valid w = true) {l : List Seen} (ho : okSeens w l = true) {p q : Int} (h0 : 0 ≤ p) (h1 : p < w.Round) (hg : giv w p l = some q) :
    couldS w l = (spots w l 0 w.Round.toNat, 0) ∧ p ∈ spots w l 0 w.Round.toNat := by
  have hm : p ∈ spots w l 0 w.Round.toNat := spots_mem.2 ⟨by simpa using h0, by omega, by rw [hg]; rfl⟩
  refine ⟨?_, hm⟩
  unfold couldS
  rw [if_pos hv, if_pos ho, if_neg (fun e => by rw [e] at hm; simp at hm)]
theorem now_in {w : Wheel} (h : OkW w) (hv : valid w = true) {l : List Seen} (ho : okSeens w l = true) {p q : Int} (h0 : 0 ≤ p) (h1 : p < w.Round) (hg : giv w p l = some q) :
    (nowS w l).2 = 0 ∧ ∀ x, x ∈ (nowS w l).1 ↔ ∃ p, 0 ≤ p ∧ p < w.Round ∧ giv w p l = some x := by
  obtain ⟨hc, hm⟩ := could_in h hv ho h0 h1 hg
  have hk := seen_kinds (Bool.and_eq_true _ _ ▸ ho).2
  have e : nowS w l = (uniqF none (isort (afters w l 0 w.Round.toNat)), 0) := by
    unfold nowS
    rw [hc, if_pos rfl]
  rw [e]
  refine ⟨rfl, fun x => ?_⟩
  rw [uniq_order (afters_range h hk)]
  show x ∈ inOrder _ 0 _ ↔ _
  rw [inOrder_mem, afters_spots, List.mem_map]
  constructor
  · rintro ⟨_, _, z, hz, rfl⟩
    obtain ⟨a, b, c⟩ := spots_mem.1 hz
    obtain ⟨y, hy⟩ := Option.isSome_iff_exists.1 c
    exact ⟨z, by simpa using a, by omega, by rw [hy]; rfl⟩
  · rintro ⟨z, a, b, c⟩
    have := giv_range h hk a b c
    exact ⟨by simpa using this.1, by omega, z, spots_mem.2 ⟨by simpa using a, by omega, by rw [c]; rfl⟩, by rw [c]; rfl⟩
theorem spots_nil (w : Wheel) : ∀ d i, (spots w [] i d).length = d
  | 0, i => rfl
  | d + 1, i => by
    simp only [spots, giv, Option.isSome_some, if_true, List.length_append, List.length_singleton]
    rw [spots_nil w d]
    omega
theorem law_CoinsSeen (w : Wheel) (p : Int) (kinds : List Int) : law01_CoinsSeen 20000 w p kinds = some true := by
  have hw : law01_CoinsSeen_j1 20000 w p kinds true = some true := by
    unfold law01_CoinsSeen_j1
    rw [works01]; rfl
  unfold law01_CoinsSeen
  rw [isWheel_eq (by omega), bnd_some]
  cases hq : (!farW w && valid w) with
  | false => exact hw
  | true =>
  simp only [Bool.and_eq_true, Bool.not_eq_true'] at hq
  obtain ⟨hf, hv⟩ := hq
  have h := valid_ok hv
  have hl := farW_len hf (n := 20000) (by omega)
  simp only [Bool.not_true, Bool.false_eq_true, if_false]
  rw [IsPlace_eq h, bnd_some]
  cases hp : okPlace w p with
  | false => exact hw
  | true =>
  simp only [Bool.not_true, Bool.false_eq_true, if_false]
  have hpp := inR_iff.1 hp
  by_cases q1 : (kinds.length : Int) > 7
  · rw [if_pos (by simpa using q1)]; exact hw
  rw [if_neg (by simpa using q1), AreKinds_eq hl.2.1 kinds 0 (by omega) (by omega), bnd_some]
  cases q3 : (kinds.all (fun x => inR x 0 (w.Coins.length - 1)) && decide ((kinds.length : Int) ≤ 20)) with
  | false => exact hw
  | true =>
  have hk : kinds.all (okKind w) = true := (Bool.and_eq_true _ _ ▸ q3).1
  have p1 : p < w.Round := by omega
  obtain ⟨s1, s2⟩ := whatS_ok h hk hpp.1 p1
  have sl := whatS_len w kinds p
  have ho : okSeens w (whatS w p kinds).1 = true := by
    unfold okSeens
    rw [s1, show decide (((whatS w p kinds).1.length : Int) ≤ 20) = true by simp; omega]
    rfl
  obtain ⟨c1, c2⟩ := could_in h hv ho hpp.1 p1 s2
  obtain ⟨n1, n2⟩ := now_in h hv ho hpp.1 p1 s2
  have hin : (whatS w p kinds).2 ∈ (nowS w (whatS w p kinds).1).1 := (n2 _).2 ⟨p, hpp.1, p1, s2⟩
  have hsm := couldS_small (w := w) (l := (whatS w p kinds).1)
  have hnl : (nowS w (whatS w p kinds).1).1.length ≤ (spots w (whatS w p kinds).1 0 w.Round.toNat).length := by
    unfold nowS
    rw [c1, if_pos rfl]
    have h1 := uniqF_len (isort (afters w (whatS w p kinds).1 0 w.Round.toNat)) none
    have e : (afters w (whatS w p kinds).1 0 w.Round.toNat).length = (spots w (whatS w p kinds).1 0 w.Round.toNat).length := by rw [afters_spots, List.length_map]
    rw [(isort_perm _).length_eq, e] at h1
    exact h1
  rw [c1] at hsm
  unfold law01_CoinsSeen_j1
  simp only [Bool.not_true, Bool.false_eq_true, if_false]
  rw [What_eq h (by omega) (by omega) (by omega) hk hpp.1 p1, bnd_some, app_nil (by omega), bnd_some, Could_eq hl (by omega) (by omega) (by omega), bnd_some, bnd_some, Now_eq hl (by omega) (by omega) (by omega), bnd_some, c1, n1]
  simp only [bne_self_eq_false, Bool.false_eq_true, if_false]
  simp only at hsm
  rw [if_neg (by simp; omega), if_neg (by simp; omega), In_eq _ _ (by omega) (by omega), bnd_some, In_eq _ _ (by omega) (by omega), bnd_some]
  rw [show decide (p ∈ spots w (whatS w p kinds).1 0 w.Round.toNat) = true by simpa using c2, show decide ((whatS w p kinds).2 ∈ (nowS w (whatS w p kinds).1).1) = true by simpa using hin]
  simp only [Bool.not_true, Bool.false_eq_true, if_false]
  rw [show decide (((nowS w (whatS w p kinds).1).1.length : Int) > ((spots w (whatS w p kinds).1 0 w.Round.toNat).length : Int)) = false by simp; omega]
  unfold law01_CoinsSeen_j2
  simp only [Bool.false_eq_true, if_false]
  by_cases q4 : kinds.length = 0
  · have e : kinds = [] := List.eq_nil_of_length_eq_zero q4
    subst e
    have hr := h.r1
    have e1 : ((spots w (whatS w p []).1 0 w.Round.toNat).length : Int) = w.Round := by
      show ((spots w [] 0 w.Round.toNat).length : Int) = w.Round
      rw [spots_nil]
      omega
    rw [if_pos (by simp), if_pos (by simpa using e1), works01]
    rfl
  · rw [if_neg (by simpa using q4)]
    have e1 : w64 (((whatS w p kinds).1.length : Int) - 1) = ((kinds.length - 1 : Nat) : Int) := by rw [w64_id (by omega) (by omega)]; omega
    have ecut : cut (whatS w p kinds).1 0 (w64 (((whatS w p kinds).1.length : Int) - 1)) = some ((whatS w p kinds).1.take (kinds.length - 1)) := by
      rw [e1]
      unfold cut
      rw [if_pos ⟨by omega, by omega, by omega⟩]
      simp
    have ho2 : okSeens w ((whatS w p kinds).1.take (kinds.length - 1)) = true := by
      unfold okSeens
      rw [show decide ((((whatS w p kinds).1.take (kinds.length - 1)).length : Int) ≤ 20) = true by simp; omega]
      rw [List.all_eq_true] at s1
      rw [Bool.true_and, List.all_eq_true]
      intro x hx
      exact s1 x (List.mem_of_mem_take hx)
    have hg2 : (giv w p ((whatS w p kinds).1.take (kinds.length - 1))).isSome = true := giv_take _ (by rw [s2]; rfl)
    obtain ⟨q, hq⟩ := Option.isSome_iff_exists.1 hg2
    obtain ⟨d1, d2⟩ := could_in h hv ho2 hpp.1 p1 hq
    have hsm2 := couldS_small (w := w) (l := (whatS w p kinds).1.take (kinds.length - 1))
    rw [d1] at hsm2
    simp only at hsm2
    have htl : ((whatS w p kinds).1.take (kinds.length - 1)).length < 1000 := by simp; omega
    rw [ecut, bnd_some, app_nil (by omega), bnd_some, Could_eq hl (by omega) (by omega) (by omega), bnd_some, d1]
    simp only [bne_self_eq_false, Bool.false_eq_true, if_false]
    rw [show decide (((spots w ((whatS w p kinds).1.take (kinds.length - 1)) 0 w.Round.toNat).length : Int) > 200) = false by simp; omega]
    unfold law01_CoinsSeen_j4
    simp only [Bool.false_eq_true, if_false]
    have := loopI (F := fun m i (_ : Unit) => law01_CoinsSeen_l1 20000 (spots w (whatS w p kinds).1 0 w.Round.toNat, 0) (spots w ((whatS w p kinds).1.take (kinds.length - 1)) 0 w.Round.toNat, 0) m i) (xs := spots w (whatS w p kinds).1 0 w.Round.toNat) (spec := fun _ _ => some true)
      (I := fun k _ => ∀ x, x ∈ k → x ∈ spots w ((whatS w p kinds).1.take (kinds.length - 1)) 0 w.Round.toNat) (by omega) (fun m s _ => by simp [law01_CoinsSeen_l1, law01_CoinsSeen_l1_b, law01_CoinsSeen_j5, works01]) (fun m i x k s hI hx hi _ _ hrec => by
        simp only [law01_CoinsSeen_l1, law01_CoinsSeen_l1_b]
        rw [if_pos (by simpa using hi), hx, bnd_some, In_eq _ _ (by omega) (by omega), bnd_some, if_neg (by simpa using hI x (by simp)), hrec () (fun y hy => hI y (by simp [hy]))])
      (spots w (whatS w p kinds).1 0 w.Round.toNat) 0 20000 () (by omega) rfl (by omega) (fun x hx => by
        obtain ⟨a, b, c⟩ := spots_mem.1 hx
        exact spots_mem.2 ⟨a, b, giv_take _ c⟩)
    exact this
end Go.Law
