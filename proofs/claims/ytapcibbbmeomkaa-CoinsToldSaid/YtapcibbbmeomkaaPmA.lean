/-
  Plain laws.
  Conditions: none.
-/
import Derived.Test.YtapcibbbmeomkaaMd
import Derived.Test.YtapcibbbmeomkaaPlA
import Derived.Test.YtapcibbbmeomkaaAmSd
set_option linter.all false
namespace Go.Law
open Go Go.AM
theorem works01 : law01_works 20000 = some true := by decide +kernel

/-- A loop over a list. -/
theorem loopL {α S R : Type} (F : Nat → Int → S → Option R) (xs : List α) (spec : List α → S → Option R) (hl : xs.length < 1048576) (h0 : ∀ m s, F (m + 1) (xs.length : Int) s = spec [] s)
    (hs : ∀ m (i : Nat) x l s, idx xs (i : Int) = some x → (i : Int) < (xs.length : Int) → i < 1048576 → xs.drop (i + 1) = l → (∀ s', F m (w64 ((i : Int) + 1)) s' = spec l s') → F (m + 1) (i : Int) s = spec (x :: l) s) :
    ∀ (l : List α) (i m : Nat) (s : S), i ≤ xs.length → xs.drop i = l → l.length < m → F m (i : Int) s = spec l s := by
  intro l
  induction l with
  | nil =>
    intro i m s hi hd hm
    obtain ⟨m, rfl⟩ : ∃ k, m = k + 1 := ⟨m - 1, by omega⟩
    have : i = xs.length := by have := List.drop_eq_nil_iff.1 hd; omega
    subst this
    exact h0 m s
  | cons x l ih =>
    intro i m s hi hd hm
    obtain ⟨m, rfl⟩ : ∃ k, m = k + 1 := ⟨m - 1, by omega⟩
    simp only [List.length_cons] at hm
    have hlt : i < xs.length := by
      rcases Nat.lt_or_ge i xs.length with h | h
      · exact h
      · rw [List.drop_eq_nil_of_le h] at hd; cases hd
    rw [List.drop_eq_getElem_cons hlt] at hd
    injection hd with h1 h2
    refine hs m i x l s (by rw [idx_nat hlt, h1]) (by omega) (by omega) h2 fun s' => ?_
    rw [w64_id (by omega) (by omega)]
    exact ih (i + 1) m s' (by omega) h2 (by omega)
theorem loopL0 {α S R : Type} {F : Nat → Int → S → Option R} {xs : List α} {spec : List α → S → Option R} (hl : xs.length < 1048576) {n : Nat} (hn : xs.length < n) (s : S) (h0 : ∀ m s, F (m + 1) (xs.length : Int) s = spec [] s)
    (hs : ∀ m (i : Nat) x l s, idx xs (i : Int) = some x → (i : Int) < (xs.length : Int) → i < 1048576 → xs.drop (i + 1) = l → (∀ s', F m (w64 ((i : Int) + 1)) s' = spec l s') → F (m + 1) (i : Int) s = spec (x :: l) s) :
    F n 0 s = spec xs s := loopL F xs spec hl h0 hs xs 0 n s (by omega) rfl hn
/-- The same, where something must stand. -/
theorem loopI {α S R : Type} (F : Nat → Int → S → Option R) (xs : List α) (spec : List α → S → Option R) (I : List α → S → Prop) (hl : xs.length < 1048576) (h0 : ∀ m s, I [] s → F (m + 1) (xs.length : Int) s = spec [] s)
    (hs : ∀ m (i : Nat) x l s, I (x :: l) s → idx xs (i : Int) = some x → (i : Int) < (xs.length : Int) → i < 1048576 → xs.drop (i + 1) = l → (∀ s', I l s' → F m (w64 ((i : Int) + 1)) s' = spec l s') → F (m + 1) (i : Int) s = spec (x :: l) s) :
    ∀ (l : List α) (i m : Nat) (s : S), i ≤ xs.length → xs.drop i = l → l.length < m → I l s → F m (i : Int) s = spec l s := by
  intro l
  induction l with
  | nil =>
    intro i m s hi hd hm hI
    obtain ⟨m, rfl⟩ : ∃ k, m = k + 1 := ⟨m - 1, by omega⟩
    have : i = xs.length := by have := List.drop_eq_nil_iff.1 hd; omega
    subst this
    exact h0 m s hI
  | cons x l ih =>
    intro i m s hi hd hm hI
    obtain ⟨m, rfl⟩ : ∃ k, m = k + 1 := ⟨m - 1, by omega⟩
    simp only [List.length_cons] at hm
    have hlt : i < xs.length := by
      rcases Nat.lt_or_ge i xs.length with h | h
      · exact h
      · rw [List.drop_eq_nil_of_le h] at hd; cases hd
    rw [List.drop_eq_getElem_cons hlt] at hd
    injection hd with h1 h2
    refine hs m i x l s hI (by rw [idx_nat hlt, h1]) (by omega) (by omega) h2 fun s' hI' => ?_
    rw [w64_id (by omega) (by omega)]
    exact ih (i + 1) m s' (by omega) h2 (by omega) hI'
theorem bnd_some {α β : Type} (a : α) (f : α → Option β) : Option.bind (some a) f = f a := rfl
theorem within_eq (a b c : Int) : coins_within a b c = some (inR a b c) := by
  unfold coins_within coins_within_j1 inR
  by_cases h : b ≤ a <;> simp [h]
theorem Within_eq (a b c : Int) : ref01_Within a b c = some (inR a b c) := by
  unfold ref01_Within ref01_Within_j1 inR
  by_cases h : b ≤ a <;> simp [h]
/-- Do numbers rise, behind another one. -/
def rise (lo hi : Int) : Option Int → List Int → Bool
  | _, [] => true
  | prev, x :: l => inR x lo hi && (match prev with | none => true | some y => decide (y < x)) && rise lo hi (some x) l
theorem nil_or_last (pre : List Int) : pre = [] ∨ ∃ q y, pre = q ++ [y] := by
  rcases List.eq_nil_or_concat pre with h | ⟨q, y, h⟩
  · exact .inl h
  · exact .inr ⟨q, y, by simpa using h⟩
theorem idx_last (q : List Int) (y : Int) (l : List Int) (h : (q ++ [y] ++ l).length < 1048576) : idx (q ++ [y] ++ l) (w64 (((q ++ [y]).length : Int) - 1)) = some y := by
  simp at h
  rw [w64_id (by simp <;> omega) (by simp <;> omega), show (((q ++ [y]).length : Int) - 1) = (q.length : Int) by simp, show q ++ [y] ++ l = q ++ y :: l by simp, idx_mid]
theorem Rising_l (lo hi : Int) : ∀ (l pre : List Int) (m : Nat), (pre ++ l).length < 1048576 → l.length < m →
    ref01_Rising_l1 (pre ++ l) lo hi m (pre.length : Int) = some (rise lo hi pre.getLast? l) := by
  intro l
  induction l with
  | nil =>
    intro pre m hs hm
    obtain ⟨m, rfl⟩ : ∃ k, m = k + 1 := ⟨m - 1, by omega⟩
    simp [ref01_Rising_l1, ref01_Rising_l1_b, ref01_Rising_j1, rise]
  | cons x l ih =>
    intro pre m hs hm
    obtain ⟨m, rfl⟩ : ∃ k, m = k + 1 := ⟨m - 1, by omega⟩
    have h := ih (pre ++ [x]) m (by simpa using hs) (by simp at hm; omega)
    rw [show (((pre ++ [x]).length : Nat) : Int) = (pre.length : Int) + 1 by simp, List.getLast?_concat, show pre ++ [x] ++ l = pre ++ x :: l by simp] at h
    simp at hs hm
    simp only [ref01_Rising_l1, ref01_Rising_l1_b]
    rw [if_pos (by simp <;> omega), idx_mid]
    simp only [Option.bind_some, Within_eq, rise]
    by_cases hr : inR x lo hi = true
    · rw [if_neg (by simp [hr])]
      rcases nil_or_last pre with rfl | ⟨q, y, rfl⟩
      · rw [if_neg (by simp)]
        simp only [ref01_Rising_j2]
        rw [if_neg (by simp), w64_id (by simp) (by simp), h]
        simp [hr]
      · rw [if_pos (by simp <;> omega), idx_last q y (x :: l) (by simp at hs ⊢; omega)]
        simp only [Option.bind_some, ref01_Rising_j2, List.getLast?_concat]
        by_cases hb : x ≤ y
        · rw [if_pos (by simpa using hb)]
          simp [hr, show ¬ y < x by omega]
        · rw [if_neg (by simpa using hb), w64_id (by omega) (by omega), h]
          simp [hr, show y < x by omega]
    · have hr' : inR x lo hi = false := by simpa using hr
      rw [if_pos (by simp [hr'])]
      simp [ref01_Rising_j2, hr']
theorem Rising_eq {n : Nat} (l : List Int) (lo hi : Int) (hs : l.length < 1048576) (hn : l.length < n) : ref01_Rising n l lo hi = some (rise lo hi none l) := Rising_l lo hi l [] n (by simpa using hs) hn
theorem rising_l (many most : Int) : ∀ (l pre : List Int) (m : Nat), (pre ++ l).length < 1048576 → l.length < m →
    coins_rising_l1 (pre ++ l) many most m (pre.length : Int) = some (rise 1 most pre.getLast? l && decide (((pre ++ l).length : Int) ≤ many)) := by
  intro l
  induction l with
  | nil =>
    intro pre m hs hm
    obtain ⟨m, rfl⟩ : ∃ k, m = k + 1 := ⟨m - 1, by omega⟩
    simp [coins_rising_l1, coins_rising_l1_b, coins_rising_j1, rise]
  | cons x l ih =>
    intro pre m hs hm
    obtain ⟨m, rfl⟩ : ∃ k, m = k + 1 := ⟨m - 1, by omega⟩
    have h := ih (pre ++ [x]) m (by simpa using hs) (by simp at hm; omega)
    rw [show (((pre ++ [x]).length : Nat) : Int) = (pre.length : Int) + 1 by simp, List.getLast?_concat, show pre ++ [x] ++ l = pre ++ x :: l by simp] at h
    simp at hs hm
    simp only [coins_rising_l1, coins_rising_l1_b]
    rw [if_pos (by simp <;> omega), idx_mid]
    simp only [Option.bind_some, within_eq, rise]
    by_cases hr : inR x 1 most = true
    · rw [if_neg (by simp [hr])]
      rcases nil_or_last pre with rfl | ⟨q, y, rfl⟩
      · rw [if_neg (by simp)]
        simp only [coins_rising_j2]
        rw [if_neg (by simp), w64_id (by simp) (by simp), h]
        simp [hr]
      · rw [if_pos (by simp <;> omega), idx_last q y (x :: l) (by simp at hs ⊢; omega)]
        simp only [Option.bind_some, coins_rising_j2, List.getLast?_concat]
        by_cases hb : x ≤ y
        · rw [if_pos (by simpa using hb)]
          simp [hr, show ¬ y < x by omega]
        · rw [if_neg (by simpa using hb), w64_id (by omega) (by omega), h]
          simp [hr, show y < x by omega]
    · have hr' : inR x 1 most = false := by simpa using hr
      rw [if_pos (by simp [hr'])]
      simp [coins_rising_j2, hr']
theorem rising_eq {n : Nat} (l : List Int) (many most : Int) (hs : l.length < 1048576) (hn : l.length < n) : coins_rising n l many most = some (rise 1 most none l && decide ((l.length : Int) ≤ many)) := rising_l many most l [] n (by simpa using hs) hn
/-- Is a wheel valid. -/
def valid (w : Wheel) : Bool := inR w.Round 1 200 && (rise 1 w.Round none w.Notches && decide ((w.Notches.length : Int) ≤ 12)) && (rise 1 100 none w.Coins && decide ((w.Coins.length : Int) ≤ 4))
def okLen (n : Nat) (w : Wheel) : Prop := w.Notches.length < 1048576 ∧ w.Coins.length < 1048576 ∧ w.Notches.length < n ∧ w.Coins.length < n
theorem Check_eq {n : Nat} {w : Wheel} (h : okLen n w) : coins_Check n w = some (cond (valid w) 0 10) := by
  obtain ⟨h1, h2, h3, h4⟩ := h
  unfold coins_Check coins_Check_j1 valid
  rw [within_eq, bnd_some, rising_eq _ _ _ h1 h3, rising_eq _ _ _ h2 h4, bnd_some, bnd_some]
  cases inR w.Round 1 200 <;> cases (rise 1 w.Round none w.Notches && decide ((w.Notches.length : Int) ≤ 12)) <;> cases (rise 1 100 none w.Coins && decide ((w.Coins.length : Int) ≤ 4)) <;> rfl
theorem rCheck_eq {n : Nat} {w : Wheel} (h : okLen n w) : ref01_Check n w = some (cond (valid w) 0 10) := by
  obtain ⟨h1, h2, h3, h4⟩ := h
  unfold ref01_Check ref01_Check_j1 valid
  rw [Within_eq, bnd_some, Rising_eq _ _ _ h1 h3, Rising_eq _ _ _ h2 h4, bnd_some, bnd_some]
  by_cases q1 : (w.Notches.length : Int) ≤ 12
  · have e1 : decide ((w.Notches.length : Int) > 12) = false := by simpa using q1
    rw [e1]
    by_cases q2 : (w.Coins.length : Int) ≤ 4
    · have e2 : decide ((w.Coins.length : Int) > 4) = false := by simpa using q2
      rw [e2]
      simp only [q1, q2, decide_true, Bool.and_true]
      cases inR w.Round 1 200 <;> cases rise 1 w.Round none w.Notches <;> cases rise 1 100 none w.Coins <;> rfl
    · have e2 : decide ((w.Coins.length : Int) > 4) = true := by simp; omega
      rw [e2]
      simp only [q2, decide_false, Bool.and_false]
      cases inR w.Round 1 200 <;> cases rise 1 w.Round none w.Notches <;> rfl
  · have e1 : decide ((w.Notches.length : Int) > 12) = true := by simp; omega
    rw [e1]
    simp only [q1, decide_false, Bool.and_false, Bool.false_and]
    cases inR w.Round 1 200 <;> rfl
theorem rise_mem {lo hi : Int} : ∀ {l : List Int} {p : Option Int}, rise lo hi p l = true → (∀ x, x ∈ l → lo ≤ x ∧ x ≤ hi ∧ ∀ y, p = some y → y < x) ∧ l.Pairwise (· < ·)
  | [], _, _ => ⟨fun x h => by simp at h, .nil⟩
  | x :: l, p, h => by
    simp only [rise, Bool.and_eq_true] at h
    obtain ⟨⟨h1, h2⟩, h3⟩ := h
    obtain ⟨ih1, ih2⟩ := rise_mem h3
    have h1' := inR_iff.1 h1
    have hp : ∀ y, p = some y → y < x := fun y e => by subst e; simpa using h2
    refine ⟨fun z hz => ?_, List.pairwise_cons.2 ⟨fun z hz => (ih1 z hz).2.2 x rfl, ih2⟩⟩
    rcases List.mem_cons.1 hz with rfl | hz
    · exact ⟨h1'.1, h1'.2, hp⟩
    · have := ih1 z hz
      exact ⟨this.1, this.2.1, fun y e => Int.lt_trans (hp y e) (this.2.2 x rfl)⟩
/-- What a valid wheel is. -/
structure OkW (w : Wheel) : Prop where
  r1 : 1 ≤ w.Round
  r2 : w.Round ≤ 200
  nlen : w.Notches.length ≤ 12
  clen : w.Coins.length ≤ 4
  nm : ∀ x, x ∈ w.Notches → 1 ≤ x ∧ x ≤ w.Round
  nd : w.Notches.Pairwise (· < ·)
  cm : ∀ x, x ∈ w.Coins → 1 ≤ x ∧ x ≤ 100
  cd : w.Coins.Pairwise (· < ·)
theorem valid_ok {w : Wheel} (h : valid w = true) : OkW w := by
  simp only [valid, Bool.and_eq_true, decide_eq_true_eq] at h
  obtain ⟨⟨h1, h2, h3⟩, h4, h5⟩ := h
  have h1 := inR_iff.1 h1
  obtain ⟨a1, a2⟩ := rise_mem h2
  obtain ⟨b1, b2⟩ := rise_mem h4
  exact ⟨h1.1, h1.2, by omega, by omega, fun x hx => ⟨(a1 x hx).1, (a1 x hx).2.1⟩, a2, fun x hx => ⟨(b1 x hx).1, (b1 x hx).2.1⟩, b2⟩
theorem OkW.len {w : Wheel} (h : OkW w) {n : Nat} (hn : 100 ≤ n) : okLen n w := ⟨by have := h.nlen; omega, by have := h.clen; omega, by have := h.nlen; omega, by have := h.clen; omega⟩

theorem In_eq {n : Nat} (l : List Int) (x : Int) (hs : l.length < 1048576) (hn : l.length < n) : ref01_In n l x = some (decide (x ∈ l)) := by
  have := loopL0 (F := fun m i (_ : Unit) => ref01_In_l1 l x m i) (xs := l) (spec := fun l _ => some (decide (x ∈ l))) (n := n) hs hn () (fun m s => by simp [ref01_In_l1, ref01_In_l1_b, ref01_In_j1]) (fun m i y l s hx hi _ _ hrec => by
    simp only [ref01_In_l1, ref01_In_l1_b]
    rw [if_pos (by simpa using hi), hx, bnd_some]
    by_cases h : y = x
    · rw [if_pos (by simpa using h)]
      simp [h]
    · rw [if_neg (by simpa using h), hrec ()]
      simp [Ne.symm h])
  exact this

/-! ### Cents -/
def nx (R p : Int) : Int := if p + 1 = R then 0 else p + 1
def hit (w : Wheel) (p : Int) : Int := if p + 1 ∈ w.Notches then 1 else 0
/-- The place and the plays after so many cents. -/
def put (w : Wheel) : Nat → Int → Int → Int × Int
  | 0, p, c => (p, c)
  | k + 1, p, c => put w k (nx w.Round p) (c + hit w p)
theorem nx_range {R p : Int} (h0 : 0 ≤ p) (h1 : p < R) : 0 ≤ nx R p ∧ nx R p < R := by
  unfold nx
  split <;> omega
theorem hit_range (w : Wheel) (p : Int) : 0 ≤ hit w p ∧ hit w p ≤ 1 := by
  unfold hit
  split <;> omega
theorem Put_l {n : Nat} {w : Wheel} (h : OkW w) (hn : 100 ≤ n) {cents : Nat} (hc : cents < 1048576) : ∀ (k i m : Nat) (p c : Int), k = cents - i → i ≤ cents → k < m → 0 ≤ p → p < w.Round → 0 ≤ c → c ≤ i →
    ref01_Put_l1 n w cents m p c (i : Int) = some (put w k p c) := by
  have hr := h.r2
  intro k
  induction k with
  | zero =>
    intro i m p c hk hi hm hp hp' hc0 hc1
    obtain ⟨m, rfl⟩ : ∃ k, m = k + 1 := ⟨m - 1, by omega⟩
    have : i = cents := by omega
    subst this
    simp [ref01_Put_l1, ref01_Put_l1_b, ref01_Put_j1, put]
  | succ k ih =>
    intro i m p c hk hi hm hp hp' hc0 hc1
    obtain ⟨m, rfl⟩ : ∃ k, m = k + 1 := ⟨m - 1, by omega⟩
    have hx := hit_range w p
    have hy := nx_range hp hp'
    have key := ih (i + 1) m (nx w.Round p) (c + hit w p) (by omega) (by omega) (by omega) hy.1 hy.2 (by omega) (by omega)
    simp only [ref01_Put_l1, ref01_Put_l1_b]
    rw [if_pos (by simp; omega), w64_id (by omega) (by omega), In_eq _ _ (by have := h.nlen; omega) (by have := h.nlen; omega), bnd_some]
    have e1 : w64 ((i : Int) + 1) = ((i + 1 : Nat) : Int) := by rw [w64_id (by omega) (by omega)]; simp
    have e2 : w64 (c + 1) = c + 1 := w64_id (by omega) (by omega)
    simp only [ref01_Put_j3, ref01_Put_j2, e1, e2, w64_id (x := p + 1) (by omega) (by omega)]
    show _ = some (put w k (nx w.Round p) (c + hit w p))
    rw [← key]
    unfold nx hit
    by_cases q1 : p + 1 ∈ w.Notches
    · rw [if_pos (by simpa using q1), if_pos q1]
      by_cases q2 : p + 1 = w.Round
      · rw [if_pos (by simpa using q2), if_pos q2]
      · rw [if_neg (by simpa using q2), if_neg q2]
    · rw [if_neg (by simpa using q1), if_neg q1, Int.add_zero]
      by_cases q2 : p + 1 = w.Round
      · rw [if_pos (by simpa using q2), if_pos q2]
      · rw [if_neg (by simpa using q2), if_neg q2]
theorem Put_eq {n : Nat} {w : Wheel} (h : OkW w) (hn : 100 ≤ n) {p c : Int} (hp : 0 ≤ p) (hp' : p < w.Round) (hc : 0 ≤ c) (hc' : c < n) (hc2 : c < 1048576) : ref01_Put n w p c = some (put w c.toNat p 0) := by
  have := Put_l h hn (cents := c.toNat) (by omega) c.toNat 0 n p 0 (by omega) (by omega) (by omega) hp hp' (by omega) (by omega)
  rw [show ((c.toNat : Nat) : Int) = c by omega] at this
  exact this
theorem put_range {w : Wheel} (h : OkW w) : ∀ (k : Nat) (p c : Int), 0 ≤ p → p < w.Round → (0 ≤ (put w k p c).1 ∧ (put w k p c).1 < w.Round) ∧ c ≤ (put w k p c).2 ∧ (put w k p c).2 ≤ c + k
  | 0, p, c, h0, h1 => ⟨⟨h0, h1⟩, by simp [put], by simp [put]⟩
  | k + 1, p, c, h0, h1 => by
    have hy := nx_range h0 h1
    have hx := hit_range w p
    have := put_range h k (nx w.Round p) (c + hit w p) hy.1 hy.2
    simp only [put]
    omega
theorem put_add (w : Wheel) : ∀ (j k : Nat) (p c : Int), put w (j + k) p c = put w k (put w j p c).1 (put w j p c).2
  | 0, k, p, c => by simp [put]
  | j + 1, k, p, c => by
    rw [show j + 1 + k = (j + k) + 1 by omega]
    simp only [put]
    exact put_add w j k _ _
/-! ### The notches that were reached -/
theorem ediv_succ {A R : Int} (hR : 0 < R) : (A + 1) / R = A / R + (if A % R = R - 1 then 1 else 0) := by
  have h1 := Int.mul_ediv_add_emod A R
  have h2 := Int.emod_nonneg A (show R ≠ 0 by omega)
  have h3 := Int.emod_lt_of_pos A hR
  split
  · rename_i h
    have : A + 1 = R * (A / R + 1) := by rw [Int.mul_add]; omega
    rw [this, Int.mul_ediv_cancel_left _ (by omega)]
  · rename_i h
    have : A + 1 = (A % R + 1) + R * (A / R) := by omega
    rw [this, Int.add_mul_ediv_left _ _ (by omega), Int.ediv_eq_zero_of_lt (by omega) (by omega)]
    omega
theorem emod_succ {A R : Int} (hR : 0 < R) : (A + 1) % R = nx R (A % R) := by
  have h1 := Int.mul_ediv_add_emod A R
  have h2 := Int.emod_nonneg A (show R ≠ 0 by omega)
  have h3 := Int.emod_lt_of_pos A hR
  unfold nx
  split
  · rename_i h
    have : A + 1 = R * (A / R + 1) := by rw [Int.mul_add]; omega
    rw [this, Int.mul_emod_right]
  · rename_i h
    have : A + 1 = (A % R + 1) + R * (A / R) := by omega
    rw [this, Int.add_mul_emod_self_left, Int.emod_eq_of_lt (by omega) (by omega)]
theorem emod_notch {B R m : Int} (hR : 0 < R) (h1 : 1 ≤ m) (h2 : m ≤ R) : (B - m + R) % R = R - 1 ↔ m = B % R + 1 := by
  have e1 := Int.mul_ediv_add_emod B R
  have e2 := Int.emod_nonneg B (show R ≠ 0 by omega)
  have e3 := Int.emod_lt_of_pos B hR
  by_cases h : m ≤ B % R
  · have : B - m + R = (B % R - m) + R * (B / R + 1) := by rw [Int.mul_add]; omega
    rw [this, Int.add_mul_emod_self_left, Int.emod_eq_of_lt (by omega) (by omega)]
    omega
  · have : B - m + R = (B % R - m + R) + R * (B / R) := by omega
    rw [this, Int.add_mul_emod_self_left, Int.emod_eq_of_lt (by omega) (by omega)]
    omega
/-- How often the notches are reached. -/
def reached (R e p : Int) : List Int → Int
  | [] => 0
  | m :: l => (e - m + R) / R - (p - m + R) / R + reached R e p l
def turn (w : Wheel) (p c : Int) : Int × Int := ((p + c) % w.Round, reached w.Round (p + c) p w.Notches)
theorem reached_succ {R B p : Int} (hR : 0 < R) : ∀ (l : List Int), (∀ x, x ∈ l → 1 ≤ x ∧ x ≤ R) → l.Pairwise (· < ·) → reached R (B + 1) p l = reached R B p l + (if B % R + 1 ∈ l then 1 else 0)
  | [], _, _ => by simp [reached]
  | m :: l, h, hd => by
    have hm := h m (by simp)
    obtain ⟨d1, d2⟩ := List.pairwise_cons.1 hd
    have ih := reached_succ (B := B) (p := p) hR l (fun x hx => h x (by simp [hx])) d2
    simp only [reached]
    rw [ih, show B + 1 - m + R = (B - m + R) + 1 by omega, ediv_succ hR]
    have hn := emod_notch (B := B) hR hm.1 hm.2
    by_cases q : m = B % R + 1
    · rw [if_pos (hn.2 q), if_pos (show B % R + 1 ∈ m :: l by simp [q]), if_neg (fun hx => by have := d1 _ hx; omega)]
      omega
    · rw [if_neg (fun hx => q (hn.1 hx))]
      by_cases q2 : B % R + 1 ∈ l
      · rw [if_pos q2, if_pos (by simp [q2])]
        omega
      · rw [if_neg q2, if_neg (by simp [q2]; omega)]
        omega
theorem reached_self {R p : Int} : ∀ (l : List Int), reached R p p l = 0
  | [] => rfl
  | m :: l => by simp only [reached]; rw [reached_self l]; omega
theorem put_turn {w : Wheel} (h : OkW w) {p : Int} (h0 : 0 ≤ p) (h1 : p < w.Round) : ∀ k : Nat, put w k p 0 = turn w p k
  | 0 => by
    unfold turn
    rw [show p + ((0 : Nat) : Int) = p by simp, reached_self, Int.emod_eq_of_lt h0 h1]
    rfl
  | k + 1 => by
    have hr := h.r1
    have ih := put_turn h h0 h1 k
    rw [put_add w k 1 p 0, ih]
    unfold turn
    simp only [put]
    rw [show p + ((k + 1 : Nat) : Int) = (p + k) + 1 by simp; omega, emod_succ (by omega), reached_succ (by omega) w.Notches h.nm h.nd]
    rfl
theorem turn_range {w : Wheel} (h : OkW w) {p c : Int} (h0 : 0 ≤ p) (h1 : p < w.Round) (hc : 0 ≤ c) : (0 ≤ (turn w p c).1 ∧ (turn w p c).1 < w.Round) ∧ 0 ≤ (turn w p c).2 ∧ (turn w p c).2 ≤ c := by
  have := put_range h c.toNat p 0 h0 h1
  rw [put_turn h h0 h1, show ((c.toNat : Nat) : Int) = c by omega] at this
  omega
theorem Put_turn {n : Nat} {w : Wheel} (h : OkW w) (hn : 100 ≤ n) {p c : Int} (hp : 0 ≤ p) (hp' : p < w.Round) (hc : 0 ≤ c) (hc' : c < n) (hc2 : c < 1048576) : ref01_Put n w p c = some (turn w p c) := by
  rw [Put_eq h hn hp hp' hc hc' hc2, put_turn h hp hp', show ((c.toNat : Nat) : Int) = c by omega]
theorem reached_part {R e p : Int} (hR : 0 < R) (h : p ≤ e) : ∀ l : List Int, 0 ≤ reached R e p l
  | [] => by simp [reached]
  | m :: l => by
    have := reached_part hR h l
    have h2 := Int.ediv_le_ediv hR (show p - m + R ≤ e - m + R by omega)
    simp only [reached]
    omega
theorem turn_eq {n : Nat} {w : Wheel} (h : OkW w) (hn : 100 ≤ n) {p c : Int} (hp : 0 ≤ p) (hp' : p < w.Round) (hc : 0 ≤ c) (hc2 : c < 1048576) : coins_wheel_turn n ⟨w⟩ p c = some (turn w p c) := by
  have hr := h.r1
  have hr2 := h.r2
  have hl := h.nlen
  have hfin := turn_range h hp hp' hc
  unfold turn at hfin
  simp only at hfin
  have e0 : w64 (p + c) = p + c := w64_id (by omega) (by omega)
  have key := loopI (F := fun m i s => coins_wheel_turn_l1 ⟨w⟩ p c m s i) (xs := w.Notches) (spec := fun l s => some ((p + c) % w.Round, s + reached w.Round (p + c) p l)) (I := fun l s => 0 ≤ s ∧ s + reached w.Round (p + c) p l ≤ c ∧ ∀ x, x ∈ l → 1 ≤ x ∧ x ≤ w.Round) (by omega)
    (fun m s hI => by simp [coins_wheel_turn_l1, coins_wheel_turn_l1_b, coins_wheel_turn_j1, reached, e0, rem_nn (show 0 ≤ p + c by omega) (show 0 < w.Round by omega)])
    (fun m i x l s hI hx hi _ _ hrec => by
      obtain ⟨i1, i2, i3⟩ := hI
      have hxm := i3 x (by simp)
      simp only [reached] at i2
      have hrl := reached_part (R := w.Round) (e := p + c) (p := p) (by omega) (by omega) l
      have hd1 := Int.ediv_nonneg (show 0 ≤ p + c - x + w.Round by omega) (show 0 ≤ w.Round by omega)
      have hd2 := Int.ediv_nonneg (show 0 ≤ p - x + w.Round by omega) (show 0 ≤ w.Round by omega)
      have hd3 := Int.ediv_le_self w.Round (show 0 ≤ p + c - x + w.Round by omega)
      have hd5 := Int.ediv_le_ediv (show 0 < w.Round by omega) (show p - x + w.Round ≤ p + c - x + w.Round by omega)
      simp only [coins_wheel_turn_l1, coins_wheel_turn_l1_b]
      rw [if_pos (by simpa using hi), hx, bnd_some, e0, w64_id (x := p + c - x) (by omega) (by omega), w64_id (x := p + c - x + w.Round) (by omega) (by omega), w64_id (x := p - x) (by omega) (by omega), w64_id (x := p - x + w.Round) (by omega) (by omega),
        quo_nn (by omega) (by omega) (by omega), quo_nn (by omega) (by omega) (by omega), bnd_some, bnd_some, w64_id (x := _ - _) (by omega) (by omega), w64_id (x := s + _) (by omega) (by omega),
        hrec _ ⟨by omega, by omega, fun y hy => i3 y (by simp [hy])⟩]
      simp only [reached]
      congr 2
      omega)
    w.Notches 0 n 0 (by omega) rfl (by omega) ⟨by omega, by omega, h.nm⟩
  have key : coins_wheel_turn_l1 ⟨w⟩ p c n 0 0 = _ := key
  unfold coins_wheel_turn
  rw [key]
  unfold turn
  rw [Int.zero_add]

/-- A stand of a wheel. -/
structure OkS (w : Wheel) (s : Stand) (b : Int) : Prop where
  p0 : 0 ≤ s.Place
  p1 : s.Place < w.Round
  c0 : 0 ≤ s.Credit
  c1 : s.Credit ≤ b
def okAct (w : Wheel) (a : Int) : Bool := inR a (-1) (w.Coins.length - 1)
def okKind (w : Wheel) (a : Int) : Bool := inR a 0 (w.Coins.length - 1)
def coin (w : Wheel) (a : Int) : Int := w.Coins.getD a.toNat 0
/-- The stand after an act, and whether a selection was made. -/
def actS (w : Wheel) (s : Stand) (a : Int) : Stand × Bool :=
  if 0 ≤ a then (⟨(turn w s.Place (coin w a)).1, s.Credit + (turn w s.Place (coin w a)).2⟩, false) else if s.Credit = 0 then (s, false) else (⟨0, s.Credit - 1⟩, true)
theorem coin_idx {w : Wheel} {a : Int} (h0 : 0 ≤ a) (h1 : a ≤ w.Coins.length - 1) : idx w.Coins a = some (coin w a) := by
  obtain ⟨k, rfl⟩ : ∃ k : Nat, a = k := ⟨a.toNat, by omega⟩
  have hk : k < w.Coins.length := by omega
  rw [idx_nat hk]
  simp [coin, hk]
theorem coin_range {w : Wheel} (h : OkW w) {a : Int} (h0 : 0 ≤ a) (h1 : a ≤ w.Coins.length - 1) : 1 ≤ coin w a ∧ coin w a ≤ 100 := by
  obtain ⟨k, rfl⟩ : ∃ k : Nat, a = k := ⟨a.toNat, by omega⟩
  have hk : k < w.Coins.length := by omega
  have : coin w k = w.Coins[k] := by simp [coin, hk]
  rw [this]
  exact h.cm _ (List.getElem_mem hk)
/-! ### slices.ContainsFunc -/
theorem AreKinds_eq {n : Nat} {w : Wheel} (hw : w.Coins.length < 1048576) (l : List Int) (lo : Int) (hl : l.length < 1048576) (hn : l.length < n) : ref01_AreKinds n w l lo = some (l.all (fun x => inR x lo (w.Coins.length - 1)) && decide ((l.length : Int) ≤ 20)) := by
  have := loopL0 (F := fun m i (_ : Unit) => ref01_AreKinds_l1 w l lo m i) (xs := l) (spec := fun k _ => some (k.all (fun x => inR x lo (w.Coins.length - 1)) && decide ((l.length : Int) ≤ 20))) (n := n) hl hn () (fun m s => by simp [ref01_AreKinds_l1, ref01_AreKinds_l1_b, ref01_AreKinds_j1]) (fun m i x k s hx hi _ _ hrec => by
    simp only [ref01_AreKinds_l1, ref01_AreKinds_l1_b]
    rw [if_pos (by simpa using hi), hx, bnd_some, w64_id (by omega) (by omega), Within_eq, bnd_some]
    by_cases h : inR x lo (w.Coins.length - 1) = true
    · rw [if_neg (by simp [h]), hrec ()]
      simp [h]
    · rw [if_pos (by simpa using h)]
      simp [h])
  exact this
theorem isKind_eq {w : Wheel} (hw : w.Coins.length < 1048576) (x : Int) : coins_wheel_isKind ⟨w⟩ x = some (okKind w x) := by
  unfold coins_wheel_isKind okKind
  simp only []
  rw [w64_id (by omega) (by omega), within_eq, bnd_some]
def okPlace (w : Wheel) (p : Int) : Bool := inR p 0 (w.Round - 1)
theorem IsPlace_eq {w : Wheel} (h : OkW w) (p : Int) : ref01_IsPlace w p = some (okPlace w p) := by
  have := h.r1
  have := h.r2
  unfold ref01_IsPlace okPlace
  rw [w64_id (by omega) (by omega), Within_eq, bnd_some]
def zw : Wheel_ := ⟨⟨0, [], []⟩⟩
theorem open_eq {n : Nat} {w : Wheel} (hl : okLen n w) (aF : Wheel_ → Unit → Option (Bool × Unit)) (b : Bool) (ha : valid w = true → aF ⟨w⟩ () = some (b, ())) :
    coins_open n aF w () = some (cond (valid w) (cond b (((⟨w⟩ : Wheel_), 0), ()) ((zw, 1), ())) ((zw, 10), ())) := by
  unfold coins_open
  rw [Check_eq hl, bnd_some]
  cases hv : valid w with
  | false => rfl
  | true =>
    rw [ha hv]
    cases b <;> rfl
/-! ### Run -/
/-! ### Plays -/
theorem SameInts_eq {n : Nat} (a b : List Int) (hs : a.length < 1048576) (hn : a.length < n) : ref01_SameInts n a b = some (decide (a = b)) := by
  unfold ref01_SameInts
  by_cases h : a.length = b.length
  · rw [if_neg (by simp [h])]
    have := loopL0 (F := fun m i (_ : Unit) => ref01_SameInts_l1 a b m i) (xs := a.zip b) (spec := fun l _ => some (decide (∀ q, q ∈ l → q.1 = q.2))) (n := n) (by simp [← h]; omega) (by simp [← h]; omega) () (fun m s => by simp [ref01_SameInts_l1, ref01_SameInts_l1_b, ref01_SameInts_j1, ← h]) (fun m i x l s hx hi hi' hd hrec => by
      have hi1 : i < a.length := by simp [← h] at hi; exact hi
      have hi2 : i < b.length := by omega
      have hx' : x = (a[i], b[i]) := by
        rw [idx_nat (by simp; omega)] at hx
        injection hx with hx
        rw [← hx]
        simp
      simp only [ref01_SameInts_l1, ref01_SameInts_l1_b]
      rw [if_pos (by simp; omega), idx_nat hi1, idx_nat hi2, bnd_some, bnd_some]
      subst hx'
      by_cases hb : a[i] = b[i]
      · rw [if_neg (by simp [hb]), hrec ()]
        simp [hb]
      · rw [if_pos (by simp [hb])]
        simp [hb])
    rw [show ref01_SameInts_l1 a b n 0 = _ from this]
    congr 1
    apply decide_eq_decide.2
    constructor
    · intro hq
      apply List.ext_getElem h
      intro i h1 h2
      have := hq (a[i], b[i]) (by
        have h3 : i < (a.zip b).length := by simp; omega
        have : (a.zip b)[i] = (a[i], b[i]) := by simp
        rw [← this]
        exact List.getElem_mem h3)
      exact this
    · rintro rfl q hq
      obtain ⟨i, hi, rfl⟩ := List.getElem_of_mem hq
      simp
  · rw [if_pos (by simp; omega)]
    have : a ≠ b := fun e => h (by rw [e])
    simp [this]
theorem SameInts_self {n : Nat} (a : List Int) (hs : a.length < 1048576) (hn : a.length < n) : ref01_SameInts n a a = some true := by rw [SameInts_eq a a hs hn]; simp
theorem app_nil {α : Type} {l : List α} (h : l.length < 1048576) : app ([] : List α) l = some l := by rw [app_ok (by simp; omega)]; rfl
def farW (w : Wheel) : Bool := decide ((w.Notches.length : Int) > 40) || decide ((w.Coins.length : Int) > 40)
theorem far_eq (w : Wheel) : law01_far w = some (farW w) := by
  unfold law01_far law01_far_j1 farW
  by_cases h : (w.Notches.length : Int) > 40
  · rw [if_pos (by simpa using h)]; simp [h]
  · rw [if_neg (by simpa using h)]; simp [h]
theorem farW_len {w : Wheel} (h : farW w = false) {n : Nat} (hn : 100 ≤ n) : okLen n w := by
  simp only [farW, Bool.or_eq_false_iff, decide_eq_false_iff_not] at h
  exact ⟨by omega, by omega, by omega, by omega⟩

theorem isWheel_eq {n : Nat} (hn : 100 ≤ n) (w : Wheel) : law01_isWheel n w = some (!farW w && valid w) := by
  unfold law01_isWheel law01_isWheel_j1
  rw [far_eq, bnd_some]
  cases hf : farW w with
  | true => rfl
  | false =>
    rw [rCheck_eq (farW_len hf hn), bnd_some]
    cases valid w <;> rfl
/-! ### The whole round -/

def okSeen (w : Wheel) (x : Seen) : Bool := okKind w x.Kind && inR x.Plays 0 2400
/-- The place after coins that were seen. -/
def giv (w : Wheel) : Int → List Seen → Option Int
  | p, [] => some p
  | p, x :: l => if (turn w p (coin w x.Kind)).2 = x.Plays then giv w (turn w p (coin w x.Kind)).1 l else none
theorem giv_range {w : Wheel} (h : OkW w) : ∀ {l : List Seen} {p q : Int}, l.all (fun x => okKind w x.Kind) = true → 0 ≤ p → p < w.Round → giv w p l = some q → 0 ≤ q ∧ q < w.Round
  | [], p, q, _, h0, h1, hg => by
    simp only [giv, Option.some.injEq] at hg
    omega
  | x :: l, p, q, hl, h0, h1, hg => by
    simp only [List.all_cons, Bool.and_eq_true] at hl
    have hk := inR_iff.1 hl.1
    have hc := coin_range h hk.1 hk.2
    have ht := turn_range h h0 h1 (show 0 ≤ coin w x.Kind by omega)
    simp only [giv] at hg
    split at hg
    · exact giv_range h hl.2 ht.1.1 ht.1.2 hg
    · cases hg
theorem seen_kinds {w : Wheel} {l : List Seen} (h : l.all (okSeen w) = true) : l.all (fun x => okKind w x.Kind) = true := by
  rw [List.all_eq_true] at h ⊢
  intro x hx
  have := h x hx
  simp only [okSeen, Bool.and_eq_true] at this
  exact this.1
theorem gives_eq {n : Nat} {w : Wheel} (h : OkW w) (hn : 100 ≤ n) {l : List Seen} (hl : l.length < 1048576) (hn2 : l.length < n) (hk : l.all (fun x => okKind w x.Kind) = true) {p : Int} (h0 : 0 ≤ p) (h1 : p < w.Round) :
    coins_wheel_gives n ⟨w⟩ p l = some (match giv w p l with | some q => (q, true) | none => (0, false)) := by
  have key := loopI (F := fun m i p => coins_wheel_gives_l1 n ⟨w⟩ l m p i) (xs := l) (spec := fun k p => some (match giv w p k with | some q => (q, true) | none => (0, false))) (I := fun k p => k.all (fun x => okKind w x.Kind) = true ∧ 0 ≤ p ∧ p < w.Round) hl
    (fun m p hI => by simp [coins_wheel_gives_l1, coins_wheel_gives_l1_b, coins_wheel_gives_j1, giv])
    (fun m i x k p hI hx hi _ _ hrec => by
      obtain ⟨i1, i2, i3⟩ := hI
      simp only [List.all_cons, Bool.and_eq_true] at i1
      have hk := inR_iff.1 i1.1
      have hc := coin_range h hk.1 hk.2
      have ht := turn_range h i2 i3 (show 0 ≤ coin w x.Kind by omega)
      simp only [coins_wheel_gives_l1, coins_wheel_gives_l1_b]
      rw [if_pos (by simpa using hi), hx, bnd_some, coin_idx hk.1 hk.2, bnd_some, turn_eq h hn i2 i3 (by omega) (by omega), bnd_some]
      by_cases hq : (turn w p (coin w x.Kind)).2 = x.Plays
      · rw [if_neg (by simpa using hq), hrec _ ⟨i1.2, ht.1.1, ht.1.2⟩]
        simp [giv, hq]
      · rw [if_pos (by simpa using hq)]
        simp [giv, hq])
    l 0 n p (by omega) rfl hn2 ⟨hk, h0, h1⟩
  exact key
theorem allS {n : Nat} (f : Seen → Option Bool) (g : Seen → Bool) (xs : List Seen) (hf : ∀ x, x ∈ xs → f x = some (g x)) (hl : xs.length < 1048576) (hn : xs.length < n) :
    coins_all_apiSeen n (fun x (_ : Unit) => (f x).map fun y => (y, ())) xs () = some (decide ((xs.length : Int) ≤ 20) && xs.all g, ()) := by
  have key : ∀ (l : List Seen) (i m : Nat) (s : Unit), i ≤ xs.length → xs.drop i = l → l.length < m → (slices_IndexFunc_apiSeen_l1 xs (coins_all_apiSeen_c1 (fun x (_ : Unit) => (f x).map fun y => (y, ()))) m (i : Int) s).map (fun r => decide (r.1 ≥ 0)) = some (!l.all g) := by
    intro l i m s h1 h2 h3
    refine loopL (fun m i s => (slices_IndexFunc_apiSeen_l1 xs (coins_all_apiSeen_c1 (fun x (_ : Unit) => (f x).map fun y => (y, ()))) m i s).map (fun r => decide (r.1 ≥ 0))) xs (fun l _ => some (!l.all g)) hl (fun m s => ?_) (fun m i x l s hx hi _ _ hrec => ?_) l i m s h1 h2 h3
    · simp [slices_IndexFunc_apiSeen_l1, slices_IndexFunc_apiSeen_l1_b, slices_IndexFunc_apiSeen_j1]
    · have hmem : x ∈ xs := by
        unfold idx at hx
        rw [if_pos (by omega)] at hx
        exact List.mem_of_getElem? hx
      simp only [slices_IndexFunc_apiSeen_l1, slices_IndexFunc_apiSeen_l1_b]
      rw [if_pos (by simpa using hi), hx, bnd_some]
      simp only [coins_all_apiSeen_c1, hf x hmem, Option.map_some, bnd_some]
      by_cases hg : g x = true
      · rw [if_neg (by simp [hg])]
        have := hrec ()
        rw [this]
        simp [hg]
      · rw [if_pos (by simpa using hg)]
        simp [hg]
  have h := key xs 0 n () (by omega) rfl hn
  unfold coins_all_apiSeen coins_all_apiSeen_j1
  by_cases hq : (xs.length : Int) ≤ 20
  · rw [if_pos (by simpa using hq)]
    unfold slices_ContainsFunc_apiSeen slices_IndexFunc_apiSeen
    change Option.map _ (slices_IndexFunc_apiSeen_l1 xs _ n 0 ()) = _ at h
    cases hx : slices_IndexFunc_apiSeen_l1 xs (coins_all_apiSeen_c1 (fun x (_ : Unit) => (f x).map fun y => (y, ()))) n 0 () with
    | none => rw [hx] at h; cases h
    | some r =>
      rw [hx] at h
      simp only [Option.map_some, Option.some.injEq] at h
      simp only [bnd_some]
      rw [h]
      simp [hq]
  · rw [if_neg (by simpa using hq)]
    simp [hq]
theorem stood_c1_eq {n : Nat} {w : Wheel} (hw : w.Coins.length < 1048576) (l : List Seen) (hl : l.length < 1048576) (hn : l.length < n) : coins_stood_c1 n ⟨w⟩ l = some (decide ((l.length : Int) ≤ 20) && l.all (okSeen w)) := by
  unfold coins_stood_c1
  rw [allS (fun x => coins_stood_c1_c1 x ⟨w⟩) (okSeen w) l (fun x _ => by
    unfold coins_stood_c1_c1 coins_stood_c1_c1_j1 okSeen
    rw [isKind_eq hw, bnd_some, within_eq, bnd_some]
    cases okKind w x.Kind <;> rfl) hl hn]
  rfl
/-- The places from i on that give what was seen; where the wheel stands then. -/
def spots (w : Wheel) (l : List Seen) : Nat → Nat → List Int
  | _, 0 => []
  | i, d + 1 => (if (giv w i l).isSome then [(i : Int)] else []) ++ spots w l (i + 1) d
def afters (w : Wheel) (l : List Seen) : Nat → Nat → List Int
  | _, 0 => []
  | i, d + 1 => (giv w i l).toList ++ afters w l (i + 1) d
theorem spots_len (w : Wheel) (l : List Seen) : ∀ d i, (spots w l i d).length ≤ d
  | 0, i => by simp [spots]
  | d + 1, i => by
    have := spots_len w l d (i + 1)
    simp only [spots, List.length_append]
    split <;> simp <;> omega
theorem afters_spots (w : Wheel) (l : List Seen) : ∀ d i, afters w l i d = (spots w l i d).map (fun p => (giv w p l).getD (-1))
  | 0, i => rfl
  | d + 1, i => by
    simp only [afters, spots, List.map_append]
    rw [afters_spots w l d (i + 1)]
    cases h : giv w (i : Int) l <;> simp [h]
theorem spots_mem {w : Wheel} {l : List Seen} : ∀ {d i : Nat} {p : Int}, p ∈ spots w l i d ↔ (i : Int) ≤ p ∧ p < i + d ∧ (giv w p l).isSome = true
  | 0, i, p => by simp [spots]; omega
  | d + 1, i, p => by
    simp only [spots, List.mem_append]
    rw [spots_mem (d := d) (i := i + 1)]
    constructor
    · rintro (h | ⟨h1, h2, h3⟩)
      · split at h
        · rename_i hs
          simp at h
          subst h
          exact ⟨by omega, by simp; omega, hs⟩
        · simp at h
      · simp at h1 h2 ⊢
        exact ⟨by omega, by omega, h3⟩
    · rintro ⟨h1, h2, h3⟩
      by_cases h : p = i
      · subst h
        left
        rw [if_pos h3]
        simp
      · right
        simp at h2 ⊢
        exact ⟨by omega, by omega, h3⟩
theorem c2_now {n : Nat} {w : Wheel} (h : OkW w) (hn : 300 ≤ n) {l : List Seen} (hl : l.length < 1048576) (hn2 : l.length < n) (hk : l.all (fun x => okKind w x.Kind) = true) : ∀ (d i m : Nat) (s : List Int), (i : Int) + d = w.Round → d < m → s.length + d ≤ 1048576 →
    coins_stood_c2_l1 n coins_Now_r1 ⟨w⟩ l m (i : Int) s = some ((), s ++ afters w l i d) := by
  have hr := h.r2
  intro d
  induction d with
  | zero =>
    intro i m s hi hm hs
    obtain ⟨m, rfl⟩ : ∃ k, m = k + 1 := ⟨m - 1, by omega⟩
    simp only [coins_stood_c2_l1, coins_stood_c2_l1_b]
    rw [if_neg (by simp; omega)]
    simp [afters]
  | succ d ih =>
    intro i m s hi hm hs
    obtain ⟨m, rfl⟩ : ∃ k, m = k + 1 := ⟨m - 1, by omega⟩
    simp only [coins_stood_c2_l1, coins_stood_c2_l1_b]
    rw [if_pos (by simp; omega), gives_eq h (by omega) hl hn2 hk (by omega) (by omega), bnd_some]
    have e : w64 ((i : Int) + 1) = ((i + 1 : Nat) : Int) := by rw [w64_id (by omega) (by omega)]; simp
    cases hg : giv w (i : Int) l with
    | none =>
      simp only [Bool.false_eq_true, if_false, coins_stood_c2_j1]
      rw [e, ih (i + 1) m s (by simp; omega) (by omega) (by omega)]
      simp [afters, hg]
    | some q =>
      simp only [if_true, coins_Now_r1]
      rw [app_ok (by simp; omega), bnd_some]
      simp only [bnd_some, coins_stood_c2_j1, Bool.not_true, Bool.false_eq_true, if_false]
      rw [e, ih (i + 1) m _ (by simp; omega) (by omega) (by simp; omega)]
      simp [afters, hg]
theorem c2_stood {n : Nat} {w : Wheel} (h : OkW w) (hn : 300 ≤ n) {l : List Seen} (hl : l.length < 1048576) (hn2 : l.length < n) (hk : l.all (fun x => okKind w x.Kind) = true) : ∀ (d i m : Nat), (i : Int) + d = w.Round → d < m →
    coins_stood_c2_l1 n (coins_stood_r1 l ((⟨w⟩, 0), ())) ⟨w⟩ l m (i : Int) (none, false) = some ((), if spots w l i d = [] then (none, false) else (some (⟨w⟩, l), true)) := by
  have hr := h.r2
  intro d
  induction d with
  | zero =>
    intro i m hi hm
    obtain ⟨m, rfl⟩ : ∃ k, m = k + 1 := ⟨m - 1, by omega⟩
    simp only [coins_stood_c2_l1, coins_stood_c2_l1_b]
    rw [if_neg (by simp; omega)]
    simp [spots]
  | succ d ih =>
    intro i m hi hm
    obtain ⟨m, rfl⟩ : ∃ k, m = k + 1 := ⟨m - 1, by omega⟩
    simp only [coins_stood_c2_l1, coins_stood_c2_l1_b]
    rw [if_pos (by simp; omega), gives_eq h (by omega) hl hn2 hk (by omega) (by omega), bnd_some]
    have e : w64 ((i : Int) + 1) = ((i + 1 : Nat) : Int) := by rw [w64_id (by omega) (by omega)]; simp
    cases hg : giv w (i : Int) l with
    | none =>
      simp only [Bool.false_eq_true, if_false, coins_stood_c2_j1]
      rw [e, ih (i + 1) m (by simp; omega) (by omega)]
      simp [spots, hg]
    | some q =>
      simp [coins_stood_r1, coins_stood_c2_j1, spots, hg]
theorem places0 {w : Wheel} (h : OkW w) : ((0 : Nat) : Int) + (w.Round.toNat : Nat) = w.Round := by have := h.r1; omega
def okSeens (w : Wheel) (l : List Seen) : Bool := decide ((l.length : Int) ≤ 20) && l.all (okSeen w)
def couldS (w : Wheel) (l : List Seen) : List Int × Int :=
  if valid w = true then (if okSeens w l = true then (if spots w l 0 w.Round.toNat = [] then ([], 3) else (spots w l 0 w.Round.toNat, 0)) else ([], 1)) else ([], 10)
theorem stood_eq {n : Nat} {w : Wheel} (hl : okLen n w) (hn : 300 ≤ n) {l : List Seen} (h1 : l.length < 1048576) (h2 : l.length < n) :
    coins_stood n w l = some (if (couldS w l).2 = 0 then (some (⟨w⟩, l), 0) else (none, (couldS w l).2)) := by
  unfold coins_stood couldS
  rw [open_eq hl _ (okSeens w l) (fun hv => ?_), bnd_some]
  · cases hv : valid w with
    | false => rfl
    | true =>
      have h := valid_ok hv
      cases ho : okSeens w l with
      | false => rfl
      | true =>
        have hk := seen_kinds (Bool.and_eq_true _ _ ▸ ho).2
        simp only [cond_true, bne_self_eq_false, Bool.false_eq_true, if_false, if_true]
        have hs := c2_stood h hn h1 h2 hk w.Round.toNat 0 n (places0 h) (by have := h.r2; omega)
        unfold coins_stood_c2
        replace hs : coins_stood_c2_l1 n (coins_stood_r1 l ((⟨w⟩, 0), ())) ⟨w⟩ l n 0 (none, false) = _ := hs
        rw [hs, bnd_some]
        by_cases q : spots w l 0 w.Round.toNat = []
        · rw [if_pos q, if_pos q]; rfl
        · rw [if_neg q, if_neg q]; rfl
  · show (coins_stood_c1 n ⟨w⟩ l).map (fun y => (y, ())) = _
    rw [stood_c1_eq hl.2.1 l h1 h2]
    rfl
theorem couldS_ok {w : Wheel} {l : List Seen} (h : (couldS w l).2 = 0) : valid w = true ∧ okSeens w l = true ∧ couldS w l = (spots w l 0 w.Round.toNat, 0) ∧ spots w l 0 w.Round.toNat ≠ [] := by
  unfold couldS at h ⊢
  by_cases q1 : valid w = true
  · rw [if_pos q1] at h ⊢
    by_cases q2 : okSeens w l = true
    · rw [if_pos q2] at h ⊢
      by_cases q3 : spots w l 0 w.Round.toNat = []
      · rw [if_pos q3] at h; simp at h
      · rw [if_neg q3]
        exact ⟨q1, q2, rfl, q3⟩
    · rw [if_neg q2] at h; simp at h
  · rw [if_neg q1] at h; simp at h
def nowS (w : Wheel) (l : List Seen) : List Int × Int := if (couldS w l).2 = 0 then (uniqF none (isort (afters w l 0 w.Round.toNat)), 0) else ([], (couldS w l).2)
theorem Now_eq {n : Nat} {w : Wheel} (hl : okLen n w) (hn : 300 ≤ n) {l : List Seen} (h1 : l.length < 1048576) (h2 : l.length < n) : coins_Now n w l = some (nowS w l) := by
  unfold coins_Now nowS
  rw [stood_eq hl hn h1 h2, bnd_some]
  by_cases q : (couldS w l).2 = 0
  · obtain ⟨hv, ho, hc, _⟩ := couldS_ok q
    have h := valid_ok hv
    have hk := seen_kinds (Bool.and_eq_true _ _ ▸ ho).2
    have hsl := spots_len w l w.Round.toNat 0
    have hr := h.r2
    rw [if_pos q, if_pos q]
    simp only [bne_self_eq_false, Bool.false_eq_true, if_false, bnd_some]
    have hs := c2_now h hn h1 h2 hk w.Round.toNat 0 n [] (places0 h) (by omega) (by simp; omega)
    unfold coins_stood_c2
    rw [show (0 : Int) = ((0 : Nat) : Int) from rfl, hs, bnd_some]
    simp only [List.nil_append]
    rw [if_pos (by rw [afters_spots]; simp; omega)]
  · rw [if_neg q, if_neg q]
    simp [q]
/-! ### The reference -/
/-- Those of a list, in order. -/
def inOrder (k : List Int) : Nat → Nat → List Int
  | _, 0 => []
  | i, d + 1 => (if (i : Int) ∈ k then [(i : Int)] else []) ++ inOrder k (i + 1) d
theorem inOrder_mem {k : List Int} : ∀ {d i : Nat} {p : Int}, p ∈ inOrder k i d ↔ (i : Int) ≤ p ∧ p < i + d ∧ p ∈ k
  | 0, i, p => by simp [inOrder]; omega
  | d + 1, i, p => by
    simp only [inOrder, List.mem_append]
    rw [inOrder_mem (d := d) (i := i + 1)]
    constructor
    · rintro (h | ⟨h1, h2, h3⟩)
      · split at h
        · rename_i hs
          simp at h
          subst h
          exact ⟨by omega, by simp; omega, hs⟩
        · simp at h
      · simp at h1 h2 ⊢
        exact ⟨by omega, by omega, h3⟩
    · rintro ⟨h1, h2, h3⟩
      by_cases h : p = i
      · subst h
        left
        rw [if_pos h3]
        simp
      · right
        simp at h2 ⊢
        exact ⟨by omega, by omega, h3⟩
theorem inOrder_lt (k : List Int) : ∀ d i, (inOrder k i d).Pairwise (· < ·)
  | 0, i => .nil
  | d + 1, i => by
    simp only [inOrder]
    refine List.pairwise_append.2 ⟨by split <;> simp, inOrder_lt k d (i + 1), fun x hx y hy => ?_⟩
    have hy := (inOrder_mem.1 hy).1
    split at hx
    · simp at hx
      subst hx
      simp at hy
      omega
    · simp at hx
theorem uniqF_ok : ∀ (k : List Int) (p : Option Int), k.Pairwise (· ≤ ·) → (∀ y, p = some y → ∀ x, x ∈ k → y ≤ x) → (uniqF p k).Pairwise (· < ·) ∧ ∀ x, x ∈ uniqF p k ↔ x ∈ k ∧ p ≠ some x
  | [], p, _, _ => by simp [uniqF]
  | z :: k, p, hs, hp => by
    obtain ⟨h1, h2⟩ := List.pairwise_cons.1 hs
    obtain ⟨i1, i2⟩ := uniqF_ok k (some z) h2 (fun y e x hx => by injection e with e; subst e; exact h1 x hx)
    simp only [uniqF]
    by_cases q : p = some z
    · rw [if_pos q]
      refine ⟨i1, fun x => ?_⟩
      rw [i2, q]
      simp only [List.mem_cons, ne_eq, Option.some.injEq]
      constructor
      · rintro ⟨a, b⟩; exact ⟨.inr a, b⟩
      · rintro ⟨a | a, b⟩
        · exact absurd a.symm b
        · exact ⟨a, b⟩
    · rw [if_neg q]
      refine ⟨List.pairwise_cons.2 ⟨fun x hx => ?_, i1⟩, fun x => ?_⟩
      · have := (i2 x).1 hx
        have h3 := h1 x this.1
        have h4 : z ≠ x := fun e => this.2 (by rw [e])
        omega
      · rw [List.mem_cons, List.mem_cons, i2]
        constructor
        · rintro (rfl | ⟨a, b⟩)
          · exact ⟨.inl rfl, q⟩
          · refine ⟨.inr a, fun e => ?_⟩
            have h3 := hp x e z (by simp)
            have h4 := h1 x a
            exact b (by rw [show z = x by omega])
        · rintro ⟨a | a, b⟩
          · exact .inl a
          · by_cases e : x = z
            · exact .inl e
            · exact .inr ⟨a, fun h => e (by injection h with h; exact h.symm)⟩
theorem lt_lists {a b : List Int} (ha : a.Pairwise (· < ·)) (hb : b.Pairwise (· < ·)) (h : ∀ x, x ∈ a ↔ x ∈ b) : a = b := by
  refine sorted_eq ((List.perm_ext_iff_of_nodup ?_ ?_).2 h) (ha.imp fun h => by omega) (hb.imp fun h => by omega)
  · exact ha.imp fun h => by omega
  · exact hb.imp fun h => by omega
theorem uniq_order {k : List Int} {d : Nat} (h : ∀ x, x ∈ k → 0 ≤ x ∧ x < d) : uniqF none (isort k) = inOrder k 0 d := by
  obtain ⟨h1, h2⟩ := uniqF_ok (isort k) none (isort_sorted k) (fun y e => by cases e)
  refine lt_lists h1 (inOrder_lt k d 0) fun x => ?_
  rw [h2, inOrder_mem, (isort_perm k).mem_iff]
  constructor
  · rintro ⟨a, _⟩
    have := h x a
    exact ⟨by simp; omega, by simp; omega, a⟩
  · rintro ⟨_, _, a⟩
    exact ⟨a, by simp⟩
theorem afters_range {w : Wheel} (h : OkW w) {l : List Seen} (hk : l.all (fun x => okKind w x.Kind) = true) : ∀ x, x ∈ afters w l 0 w.Round.toNat → 0 ≤ x ∧ x < w.Round.toNat := by
  intro x hx
  rw [afters_spots] at hx
  obtain ⟨p, hp, rfl⟩ := List.mem_map.1 hx
  obtain ⟨a, b, c⟩ := spots_mem.1 hp
  obtain ⟨q, hq⟩ := Option.isSome_iff_exists.1 c
  have := giv_range h hk (by simpa using a) (by omega) hq
  rw [hq]
  simp only [Option.getD_some]
  omega

/-! ### Maps -/
section
variable {κ : Type} [DecidableEq κ]
theorem mhas_iff : ∀ {M : List (κ × Int)} {k : κ}, mhas M k = true ↔ k ∈ M.map (·.1)
  | [], k => by simp [mhas]
  | p :: M, k => by
    simp only [mhas, List.map_cons, List.mem_cons]
    by_cases h : p.1 = k
    · simp [h]
    · rw [if_neg h, mhas_iff]
      exact ⟨.inr, fun e => e.resolve_left (Ne.symm h)⟩
theorem mget_mem : ∀ {M : List (κ × Int)} {k : κ}, mhas M k = true → (k, mget M k) ∈ M
  | [], k, h => by simp [mhas] at h
  | p :: M, k, h => by
    by_cases e : p.1 = k
    · simp only [mget, if_pos e]
      rw [← e]
      exact List.mem_cons_self
    · simp only [mhas, if_neg e] at h
      simp only [mget, if_neg e]
      exact List.mem_cons_of_mem _ (mget_mem h)
theorem mset_mem : ∀ {M : List (κ × Int)} {k : κ} {v : Int} {p : κ × Int}, p ∈ mset M k v → p = (k, v) ∨ p ∈ M
  | [], k, v, p, h => by simp [mset] at h; exact .inl h
  | q :: M, k, v, p, h => by
    simp only [mset] at h
    split at h
    · rcases List.mem_cons.1 h with h | h
      · exact .inl h
      · exact .inr (List.mem_cons_of_mem _ h)
    · rcases List.mem_cons.1 h with h | h
      · exact .inr (h ▸ List.mem_cons_self)
      · rcases mset_mem h with h | h
        · exact .inl h
        · exact .inr (List.mem_cons_of_mem _ h)
theorem mset_keys : ∀ {M : List (κ × Int)} {k : κ} {v : Int}, (mset M k v).map (·.1) = if mhas M k = true then M.map (·.1) else M.map (·.1) ++ [k]
  | [], k, v => by simp [mset, mhas]
  | q :: M, k, v => by
    by_cases e : q.1 = k
    · simp [mset, mhas, e]
    · simp only [mset, mhas, if_neg e, List.map_cons]
      rw [mset_keys]
      cases mhas M k <;> simp
theorem mset_nodup {M : List (κ × Int)} {k : κ} {v : Int} (h : (M.map (·.1)).Nodup) : ((mset M k v).map (·.1)).Nodup := by
  rw [mset_keys]
  cases e : mhas M k with
  | true => simpa using h
  | false =>
    have : ¬ k ∈ M.map (·.1) := fun hk => by rw [mhas_iff.2 hk] at e; cases e
    simp only [Bool.false_eq_true, if_false]
    rw [List.nodup_append]
    refine ⟨h, by simp, fun a ha b hb => ?_⟩
    simp only [List.mem_singleton] at hb
    subst hb
    exact fun e => this (e ▸ ha)
theorem mhas_set {M : List (κ × Int)} {k k' : κ} {v : Int} : mhas (mset M k v) k' = true ↔ k' = k ∨ mhas M k' = true := by
  rw [mhas_iff, mhas_iff, mset_keys]
  cases e : mhas M k with
  | true =>
    simp only [if_true]
    exact ⟨.inr, fun h => h.elim (fun q => q ▸ mhas_iff.1 e) id⟩
  | false => simp [or_comm]
end

/-! ### The best of some numbers -/
def stepB (b : Bool) (s : Bool × Int) (n : Int) : Bool × Int := if s.1 = true ∨ cond b (decide (n > s.2)) (decide (n < s.2)) = true then (false, n) else s
def pick (b : Bool) (vs : List Int) : Int := (vs.foldl (stepB b) (true, 0)).2
def leB (b : Bool) (x y : Int) : Prop := cond b (x ≤ y) (y ≤ x)
theorem leB.refl (b : Bool) (x : Int) : leB b x x := by cases b <;> exact Int.le_refl x
theorem leB.trans {b : Bool} {x y z : Int} (h : leB b x y) (h' : leB b y z) : leB b x z := by
  cases b
  · exact Int.le_trans h' h
  · exact Int.le_trans h h'
theorem leB.add {b : Bool} {x y : Int} (h : leB b x y) (a : Int) : leB b (a + x) (a + y) := by
  cases b
  · exact Int.add_le_add_left h a
  · exact Int.add_le_add_left h a
/-! ### Purses -/
def total : List Int → Int
  | [] => 0
  | x :: l => x + total l
def lessP (l : List Int) (k : Nat) : List Int := l.set k (l.getD k 0 - 1)
theorem total_set : ∀ {l : List Int} {k : Nat} {v : Int}, k < l.length → total (l.set k v) = total l - l.getD k 0 + v
  | [], k, v, h => by simp at h
  | x :: l, 0, v, h => by simp [total]; omega
  | x :: l, k + 1, v, h => by
    have := total_set (l := l) (k := k) (v := v) (by simpa using h)
    simp only [List.set_cons_succ, total, List.getD_cons_succ]
    omega
theorem total_less {l : List Int} {k : Nat} (h : k < l.length) : total (lessP l k) = total l - 1 := by
  unfold lessP
  rw [total_set h]
  omega
theorem total_nn : ∀ {l : List Int}, (∀ x, x ∈ l → 0 ≤ x) → 0 ≤ total l
  | [], _ => Int.le_refl _
  | x :: l, h => by
    have := h x (by simp)
    have := total_nn (l := l) (fun y hy => h y (by simp [hy]))
    simp only [total]
    omega
theorem getD_le : ∀ {l : List Int}, (∀ x, x ∈ l → 0 ≤ x) → ∀ k, 0 ≤ l.getD k 0 ∧ l.getD k 0 ≤ total l
  | [], _, k => by simp [total]
  | x :: l, h, 0 => by
    have := h x (by simp)
    have := total_nn (l := l) (fun y hy => h y (by simp [hy]))
    simp only [List.getD_cons_zero, total]
    omega
  | x :: l, h, k + 1 => by
    have := h x (by simp)
    have := getD_le (l := l) (fun y hy => h y (by simp [hy])) k
    simp only [List.getD_cons_succ, total]
    omega
/-- A purse of a wheel. -/
structure OkP (w : Wheel) (l : List Int) : Prop where
  len : l.length = w.Coins.length
  nn : ∀ x, x ∈ l → 0 ≤ x
  tot : total l ≤ 1000
def bagOf (l : List Int) : Bag_ := ⟨l.getD 0 0, l.getD 1 0, l.getD 2 0, l.getD 3 0⟩
theorem bag_inj {l l' : List Int} (h : bagOf l = bagOf l') (hl : l.length = l'.length) (h4 : l.length ≤ 4) : l = l' := by
  simp only [bagOf, Bag_.mk.injEq] at h
  obtain ⟨h0, h1, h2, h3⟩ := h
  apply List.ext_getElem hl
  intro i hi hi'
  have e1 : l[i] = l.getD i 0 := by simp [hi]
  have e2 : l'[i] = l'.getD i 0 := by simp [hi']
  rw [e1, e2]
  match i, (show i < 4 by omega) with
  | 0, _ => exact h0
  | 1, _ => exact h1
  | 2, _ => exact h2
  | 3, _ => exact h3

/-! ### What can come next -/
structure Opn where
  acts : List Int
  plays : Int
  p : Int
  c : Int
  k : Nat
/-- A coin. -/
def optC (w : Wheel) (p c : Int) (k : Nat) : Opn := ⟨[(k : Int)], (turn w p (coin w k)).2, (turn w p (coin w k)).1, c + (turn w p (coin w k)).2, k⟩
/-- A selection, and a coin. -/
def optS (w : Wheel) (c : Int) (k : Nat) : Opn := ⟨[-1, (k : Int)], (turn w 0 (coin w k)).2, (turn w 0 (coin w k)).1, c - 1 + (turn w 0 (coin w k)).2, k⟩
def optK (w : Wheel) (p c : Int) (k : Nat) : List Opn := optC w p c k :: (if c = 0 ∨ p = 0 then [] else [optS w c k])
def opts (w : Wheel) (p c : Int) (l : List Int) : Nat → Nat → List Opn
  | 0, _ => []
  | d + 1, k => (if l.getD k 0 = 0 then [] else optK w p c k) ++ opts w p c l d (k + 1)
theorem opts_mem {w : Wheel} {p c : Int} {l : List Int} {o : Opn} : ∀ {d k : Nat}, o ∈ opts w p c l d k ↔ ∃ j, k ≤ j ∧ j < k + d ∧ l.getD j 0 ≠ 0 ∧ o ∈ optK w p c j
  | 0, k => by
    simp only [opts, List.not_mem_nil, false_iff]
    rintro ⟨j, h1, h2, _⟩
    omega
  | d + 1, k => by
    simp only [opts, List.mem_append]
    rw [opts_mem]
    constructor
    · rintro (h | ⟨j, h1, h2, h3, h4⟩)
      · split at h
        · simp at h
        · rename_i h0
          exact ⟨k, Nat.le_refl k, by omega, h0, h⟩
      · exact ⟨j, by omega, by omega, h3, h4⟩
    · rintro ⟨j, h1, h2, h3, h4⟩
      by_cases e : j = k
      · subst e
        exact .inl (by rw [if_neg h3]; exact h4)
      · exact .inr ⟨j, by omega, by omega, h3, h4⟩
theorem optK_mem {w : Wheel} {p c : Int} {k : Nat} {o : Opn} : o ∈ optK w p c k ↔ o = optC w p c k ∨ (c ≠ 0 ∧ p ≠ 0 ∧ o = optS w c k) := by
  unfold optK
  rw [List.mem_cons]
  by_cases h : c = 0 ∨ p = 0
  · rw [if_pos h]
    simp only [List.not_mem_nil, or_false]
    exact ⟨.inl, fun q => q.elim id fun q => (h.elim q.1 q.2.1).elim⟩
  · rw [if_neg h]
    simp only [List.mem_singleton]
    exact or_congr_right ⟨fun q => ⟨fun e => h (.inl e), fun e => h (.inr e), q⟩, fun q => q.2.2⟩
/-- The plays of the best way to put a purse of so many coins in. -/
def Q (b : Bool) (w : Wheel) : Nat → Int → Int → List Int → Int
  | 0, _, _, _ => 0
  | T + 1, p, c, l => pick b ((opts w p c l l.length 0).map fun o => o.plays + Q b w T o.p o.c (lessP l o.k))
/-- What is known of what comes next. -/
structure OkO (w : Wheel) (c : Int) (l : List Int) (o : Opn) : Prop where
  k : o.k < w.Coins.length
  nz : l.getD o.k 0 ≠ 0
  p0 : 0 ≤ o.p
  p1 : o.p < w.Round
  c0 : 0 ≤ o.c
  c1 : o.c ≤ c + 100
  y0 : 0 ≤ o.plays
  y1 : o.plays ≤ 100
theorem OkP.out {w : Wheel} {l : List Int} (h : OkP w l) : ∀ j, w.Coins.length ≤ j → l.getD j 0 = 0 := fun j hj => by
  rw [← h.len] at hj
  simp [hj]
/-! ### The code: next -/
def spot (l : List Int) (p c : Int) : Spot_ := ⟨bagOf l, p, c⟩
/-! ### The code: buys -/
/-- What is kept is right. -/
def InvM (b : Bool) (w : Wheel) (M : List (Spot_ × Int)) : Prop :=
  (M.map (·.1)).Nodup ∧ ∀ e, e ∈ M → ∃ l p c, e.1 = spot l p c ∧ OkP w l ∧ (0 ≤ p ∧ p < w.Round) ∧ (0 ≤ c ∧ c < 1099511627776) ∧ e.2 = Q b w (total l).toNat p c l
theorem InvM.nil (b : Bool) (w : Wheel) : InvM b w [] := ⟨by simp, fun e h => by simp at h⟩
theorem okI_of {x : Int} (h1 : -9223372036854775808 ≤ x) (h2 : x < 9223372036854775808) : okI x = true := by
  simp only [okI, Lit.wf, IntKind.min, IntKind.max, IntKind.signed, IntKind.bits]
  simp
  omega
theorem okSpot_of {w : Wheel} (h : OkW w) {l : List Int} (hl : OkP w l) {p c : Int} (hp : 0 ≤ p) (hp' : p < w.Round) (hc : 0 ≤ c) (hc2 : c < 1099511627776) : okSpot_ (spot l p c) = true := by
  have hr := h.r2
  have ht := hl.tot
  have g := getD_le hl.nn
  have g0 := g 0
  have g1 := g 1
  have g2 := g 2
  have g3 := g 3
  simp only [okSpot_, spot, bagOf, List.all_cons, List.all_nil, Bool.and_true, Bool.and_eq_true]
  exact ⟨okI_of (by omega) (by omega), okI_of (by omega) (by omega), okI_of (by omega) (by omega), okI_of (by omega) (by omega), okI_of (by omega) (by omega), okI_of (by omega) (by omega)⟩
theorem InvM.mok {b : Bool} {w : Wheel} {M : List (Spot_ × Int)} (hM : InvM b w M) (h : OkW w) {l : List Int} (hl : OkP w l) {p c : Int} (hp : 0 ≤ p) (hp' : p < w.Round) (hc : 0 ≤ c) (hc2 : c < 1099511627776) : mok okSpot_ M (spot l p c) = true := by
  unfold Go.AM.mok
  rw [okSpot_of h hl hp hp' hc hc2, show M.all (fun p => okSpot_ p.1) = true from List.all_eq_true.2 fun e he => ?_, show decide ((M.map (·.1)).Nodup) = true by simpa using hM.1]
  · rfl
  · obtain ⟨l', p', c', e1, e2, e3, e4, _⟩ := hM.2 e he
    rw [e1]
    exact okSpot_of h e2 e3.1 e3.2 e4.1 e4.2
theorem InvM.get {b : Bool} {w : Wheel} {M : List (Spot_ × Int)} (hM : InvM b w M) (h : OkW w) {l : List Int} (hl : OkP w l) {p c : Int} (hk : mhas M (spot l p c) = true) : mget M (spot l p c) = Q b w (total l).toNat p c l := by
  obtain ⟨l', p', c', e1, e2, e3, e4, e5⟩ := hM.2 _ (mget_mem hk)
  simp only [spot, Spot_.mk.injEq] at e1
  obtain ⟨q1, q2, q3⟩ := e1
  have e : l = l' := bag_inj q1 (by rw [hl.len, e2.len]) (by rw [hl.len]; exact h.clen)
  subst e q2 q3
  exact e5
theorem InvM.set {b : Bool} {w : Wheel} {M : List (Spot_ × Int)} (hM : InvM b w M) {l : List Int} (hl : OkP w l) {p c : Int} (hp : 0 ≤ p) (hp' : p < w.Round) (hc : 0 ≤ c) (hc2 : c < 1099511627776) : InvM b w (mset M (spot l p c) (Q b w (total l).toNat p c l)) := by
  refine ⟨mset_nodup hM.1, fun e he => ?_⟩
  rcases mset_mem he with rfl | he
  · exact ⟨l, p, c, rfl, hl, ⟨hp, hp'⟩, ⟨hc, hc2⟩, rfl⟩
  · exact hM.2 e he

/-! ### The reference: all -/
/-! ### Purses of a wheel -/

/-! ### Ways -/
/-- The plays that the coins of some acts give. -/
def buysL (w : Wheel) : Stand → List Int → Int
  | _, [] => 0
  | s, a :: l => (if 0 ≤ a then (turn w s.Place (coin w a)).2 else 0) + buysL w (actS w s a).1 l
def cnt (k : Int) : List Int → Int
  | [] => 0
  | a :: l => (if a = k then 1 else 0) + cnt k l
/-- A way to put a purse in. -/
structure Way (w : Wheel) (s : Stand) (l acts : List Int) (q : Int) : Prop where
  ok : acts.all (okAct w) = true
  len : (acts.length : Int) ≤ 2 * total l
  bag : ∀ k : Nat, k < w.Coins.length → cnt k acts = l.getD k 0
  buys : buysL w s acts = q
theorem lessP_getD {l : List Int} {k j : Nat} (hk : k < l.length) : (lessP l k).getD j 0 = l.getD j 0 - (if k = j then 1 else 0) := by
  unfold lessP
  by_cases e : k = j
  · subst e
    rw [if_pos rfl, List.getD_eq_getElem?_getD, List.getElem?_set_self hk]
    rfl
  · rw [if_neg e, List.getD_eq_getElem?_getD, List.getElem?_set_ne e, ← List.getD_eq_getElem?_getD]
    omega
theorem okAct_k {w : Wheel} {k : Nat} (h : k < w.Coins.length) : okAct w k = true := inR_iff.2 ⟨by omega, by omega⟩
theorem okAct_s {w : Wheel} : okAct w (-1) = true := inR_iff.2 ⟨by omega, by omega⟩
theorem actS_k (w : Wheel) (p c : Int) (k : Nat) : actS w ⟨p, c⟩ (k : Int) = (⟨(optC w p c k).p, (optC w p c k).c⟩, false) := by
  unfold actS
  rw [if_pos (by omega)]
  rfl
theorem actS_s (w : Wheel) (p c : Int) (hc : c ≠ 0) : actS w ⟨p, c⟩ (-1) = (⟨0, c - 1⟩, true) := by
  unfold actS
  rw [if_neg (by omega), if_neg hc]
/-- A step, and a way behind it. -/
theorem Way.step {w : Wheel} {p c : Int} {l acts : List Int} {q : Int} {o : Opn} (hl : OkP w l) (hc : 0 ≤ c) (ho : o ∈ opts w p c l l.length 0) (h : Way w ⟨o.p, o.c⟩ (lessP l o.k) acts q) : Way w ⟨p, c⟩ l (o.acts ++ acts) (o.plays + q) := by
  obtain ⟨j, _, h2, h3, h4⟩ := opts_mem.1 ho
  have hj : j < l.length := by omega
  have hj' : j < w.Coins.length := by have := hl.len; omega
  rcases optK_mem.1 h4 with rfl | ⟨h5, h6, rfl⟩
  · refine ⟨?_, ?_, fun k hk => ?_, ?_⟩
    · show List.all ([(j : Int)] ++ acts) (okAct w) = true
      rw [List.singleton_append, List.all_cons, okAct_k hj', h.ok]
      rfl
    · have := h.len
      have e := total_less hj
      show ((([(j : Int)] ++ acts).length : Nat) : Int) ≤ _
      rw [show (optC w p c j).k = j from rfl] at this
      simp
      omega
    · show cnt k ((j : Int) :: acts) = _
      simp only [cnt]
      rw [h.bag k hk, show (optC w p c j).k = j from rfl, lessP_getD hj]
      by_cases e : j = k
      · rw [if_pos (by omega), if_pos e]; omega
      · rw [if_neg (by omega), if_neg e]; omega
    · show buysL w ⟨p, c⟩ ((j : Int) :: acts) = _
      simp only [buysL]
      rw [if_pos (by omega), actS_k, h.buys]
      rfl
  · refine ⟨?_, ?_, fun k hk => ?_, ?_⟩
    · show List.all ([-1, (j : Int)] ++ acts) (okAct w) = true
      rw [List.cons_append, List.singleton_append, List.all_cons, List.all_cons, okAct_k hj', okAct_s, h.ok]
      rfl
    · have := h.len
      have e := total_less hj
      show ((([-1, (j : Int)] ++ acts).length : Nat) : Int) ≤ _
      rw [show (optS w c j).k = j from rfl] at this
      simp
      omega
    · show cnt k (-1 :: (j : Int) :: acts) = _
      simp only [cnt]
      rw [h.bag k hk, show (optS w c j).k = j from rfl, lessP_getD hj, if_neg (by omega)]
      by_cases e : j = k
      · rw [if_pos (by omega), if_pos e]; omega
      · rw [if_neg (by omega), if_neg e]; omega
    · show buysL w ⟨p, c⟩ (-1 :: (j : Int) :: acts) = _
      simp only [buysL]
      rw [if_neg (by omega), actS_s w p c h5]
      simp only []
      rw [if_pos (by omega), actS_k]
      rw [show (⟨(optC w 0 (c - 1) j).p, (optC w 0 (c - 1) j).c⟩ : Stand) = ⟨(optS w c j).p, (optS w c j).c⟩ from rfl, h.buys]
      show 0 + ((turn w 0 (coin w j)).2 + q) = (turn w 0 (coin w j)).2 + q
      omega
/-! ### The code: Order -/
/-! ### The reference: Bag, Buys; isWay -/


/-! ### What a purse is worth -/
/-! ### Parts of a purse -/
def down : Nat → List Int
  | 0 => [0]
  | n + 1 => ((n + 1 : Nat) : Int) :: down n
def upF : Nat → Nat → List Int
  | _, 0 => []
  | i, d + 1 => (i : Int) :: upF (i + 1) d
theorem upF_mem {v : Int} : ∀ {d i : Nat}, v ∈ upF i d ↔ (i : Int) ≤ v ∧ v < i + d
  | 0, i => by simp [upF] <;> omega
  | d + 1, i => by
    simp only [upF, List.mem_cons, upF_mem]
    omega
theorem upF_len : ∀ (d i : Nat), (upF i d).length = d
  | 0, i => rfl
  | d + 1, i => by simp [upF, upF_len d (i + 1)]
theorem flatMap_len {α β : Type} {f : α → List β} {c : Nat} : ∀ {l : List α}, (∀ x, x ∈ l → (f x).length = c) → (l.flatMap f).length = l.length * c
  | [], _ => by simp
  | x :: l, h => by
    rw [List.flatMap_cons, List.length_append, h x (by simp), flatMap_len (l := l) (fun y hy => h y (by simp [hy])), List.length_cons, Nat.succ_mul]
    omega
/-! ### Wasted -/
def cutP (w : Wheel) (t : List Int) : List Int := t.take w.Coins.length
structure OkT (w : Wheel) (t : List Int) : Prop where
  len : t.length = 4
  rng : ∀ k, 0 ≤ t.getD k 0 ∧ t.getD k 0 ≤ 1000
  out : ∀ k, w.Coins.length ≤ k → t.getD k 0 = 0
  tot : total (cutP w t) ≤ 1000
theorem cutP_getD {w : Wheel} {t : List Int} (h : OkT w t) (k : Nat) : (cutP w t).getD k 0 = t.getD k 0 := by
  unfold cutP
  rw [List.getD_eq_getElem?_getD, List.getElem?_take]
  split
  · rfl
  · rw [h.out k (by omega)]
    rfl
theorem OkT.bag {w : Wheel} {t : List Int} (h : OkT w t) : bagOf t = bagOf (cutP w t) := by
  simp only [bagOf, cutP_getD h]

/-- What coins of some kinds give, and the place then. -/
def whatS (w : Wheel) : Int → List Int → List Seen × Int
  | p, [] => ([], p)
  | p, k :: l => (⟨k, (turn w p (coin w k)).2⟩ :: (whatS w (turn w p (coin w k)).1 l).1, (whatS w (turn w p (coin w k)).1 l).2)
theorem whatS_len (w : Wheel) : ∀ (l : List Int) (p : Int), (whatS w p l).1.length = l.length
  | [], p => rfl
  | k :: l, p => by simp only [whatS, List.length_cons]; rw [whatS_len w l]
theorem What_eq {n : Nat} {w : Wheel} (h : OkW w) (hn : 200 ≤ n) {l : List Int} (hl : l.length < 100000) (hn2 : l.length < n) (hk : l.all (okKind w) = true) {p : Int} (h0 : 0 ≤ p) (h1 : p < w.Round) : ref01_What n w p l = some (whatS w p l) := by
  have key := loopI (F := fun m i (q : Int × List Seen) => ref01_What_l1 n w l m q.1 q.2 i) (xs := l) (spec := fun k q => some (q.2 ++ (whatS w q.1 k).1, (whatS w q.1 k).2)) (I := fun k q => k.all (okKind w) = true ∧ (0 ≤ q.1 ∧ q.1 < w.Round) ∧ q.2.length + k.length ≤ 1048576) (by omega)
    (fun m q hI => by simp [ref01_What_l1, ref01_What_l1_b, ref01_What_j1, whatS])
    (fun m i x k q hI hx hi _ _ hrec => by
      obtain ⟨i1, i2, i3⟩ := hI
      simp only [List.all_cons, Bool.and_eq_true, List.length_cons] at i1 i3
      have hk := inR_iff.1 i1.1
      have hc := coin_range h hk.1 hk.2
      have ht := turn_range h i2.1 i2.2 (show 0 ≤ coin w x by omega)
      simp only [ref01_What_l1, ref01_What_l1_b]
      rw [if_pos (by simpa using hi), hx, bnd_some, coin_idx hk.1 hk.2, bnd_some, Put_turn h (by omega) i2.1 i2.2 (by omega) (by omega) (by omega), bnd_some, bnd_some, app_ok (by simp; omega), bnd_some]
      have := hrec ((turn w q.1 (coin w x)).1, q.2 ++ [⟨x, (turn w q.1 (coin w x)).2⟩]) ⟨i1.2, ht.1, by simp; omega⟩
      simp only at this
      rw [this]
      simp [whatS])
    l 0 n (p, []) (by omega) rfl hn2 ⟨hk, ⟨h0, h1⟩, by simp; omega⟩
  have key : ref01_What_l1 n w l n p [] 0 = _ := key
  unfold ref01_What
  rw [key]
  simp
theorem whatS_ok {w : Wheel} (h : OkW w) : ∀ {l : List Int} {p : Int}, l.all (okKind w) = true → 0 ≤ p → p < w.Round → (whatS w p l).1.all (okSeen w) = true ∧ giv w p (whatS w p l).1 = some (whatS w p l).2
  | [], p, _, h0, h1 => by simp [whatS, giv]
  | k :: l, p, hl, h0, h1 => by
    simp only [List.all_cons, Bool.and_eq_true] at hl
    have hk := inR_iff.1 hl.1
    have hc := coin_range h hk.1 hk.2
    have ht := turn_range h h0 h1 (show 0 ≤ coin w k by omega)
    obtain ⟨i1, i2⟩ := whatS_ok h hl.2 ht.1.1 ht.1.2
    simp only [whatS, List.all_cons, i1, Bool.and_true, giv, if_true, i2, and_true]
    show (okKind w k && inR (turn w p (coin w k)).2 0 2400) = true
    rw [hl.1]
    exact inR_iff.2 ⟨ht.2.1, by omega⟩
theorem could_in {w : Wheel} (h : OkW w) (hv : valid w = true) {l : List Seen} (ho : okSeens w l = true) {p q : Int} (h0 : 0 ≤ p) (h1 : p < w.Round) (hg : giv w p l = some q) :
    couldS w l = (spots w l 0 w.Round.toNat, 0) ∧ p ∈ spots w l 0 w.Round.toNat := by
  have hm : p ∈ spots w l 0 w.Round.toNat := spots_mem.2 ⟨by simpa using h0, by omega, by rw [hg]; rfl⟩
  refine ⟨?_, hm⟩
  unfold couldS
  rw [if_pos hv, if_pos ho, if_neg (fun e => by rw [e] at hm; simp at hm)]
theorem now_in {w : Wheel} (h : OkW w) (hv : valid w = true) {l : List Seen} (ho : okSeens w l = true) {p q : Int} (h0 : 0 ≤ p) (h1 : p < w.Round) (hg : giv w p l = some q) :
    (nowS w l).2 = 0 ∧ ∀ x, x ∈ (nowS w l).1 ↔ ∃ p, 0 ≤ p ∧ p < w.Round ∧ giv w p l = some x := by
  obtain ⟨hc, hm⟩ := could_in h hv ho h0 h1 hg
  have hk := seen_kinds (Bool.and_eq_true _ _ ▸ ho).2
  have e : nowS w l = (uniqF none (isort (afters w l 0 w.Round.toNat)), 0) := by
    unfold nowS
    rw [hc, if_pos rfl]
  rw [e]
  refine ⟨rfl, fun x => ?_⟩
  rw [uniq_order (afters_range h hk)]
  show x ∈ inOrder _ 0 _ ↔ _
  rw [inOrder_mem, afters_spots, List.mem_map]
  constructor
  · rintro ⟨_, _, z, hz, rfl⟩
    obtain ⟨a, b, c⟩ := spots_mem.1 hz
    obtain ⟨y, hy⟩ := Option.isSome_iff_exists.1 c
    exact ⟨z, by simpa using a, by omega, by rw [hy]; rfl⟩
  · rintro ⟨z, a, b, c⟩
    have := giv_range h hk a b c
    exact ⟨by simpa using this.1, by omega, z, spots_mem.2 ⟨by simpa using a, by omega, by rw [c]; rfl⟩, by rw [c]; rfl⟩

/-! ### Does a list of kinds tell -/
def rowN : Int → List Seen → Int
  | r, [] => r
  | r, x :: l => rowN (r * 2401 + x.Plays) l
def okRow (l : List Seen) : Prop := ∀ x, x ∈ l → 0 ≤ x.Plays ∧ x.Plays ≤ 2400
theorem rowN_range : ∀ {l : List Seen} {r B : Int}, okRow l → 0 ≤ r → r < B → 0 ≤ rowN r l ∧ rowN r l < B * 2401 ^ l.length
  | [], r, B, _, h0, h1 => by simp [rowN]; omega
  | x :: l, r, B, h, h0, h1 => by
    have hx := h x (by simp)
    have := rowN_range (l := l) (r := r * 2401 + x.Plays) (B := B * 2401) (fun y hy => h y (by simp [hy])) (by omega) (by omega)
    simp only [rowN, List.length_cons]
    rw [Int.pow_succ, Int.mul_comm (2401 ^ l.length), ← Int.mul_assoc]
    exact this
theorem rowN_inj : ∀ {a b : List Seen} {r r' : Int}, a.length = b.length → okRow a → okRow b → rowN r a = rowN r' b → r = r' ∧ a.map (·.Plays) = b.map (·.Plays)
  | [], [], r, r', _, _, _, h => ⟨h, rfl⟩
  | [], y :: b, r, r', hl, _, _, _ => by simp at hl
  | x :: a, [], r, r', hl, _, _, _ => by simp at hl
  | x :: a, y :: b, r, r', hl, ha, hb, h => by
    have hx := ha x (by simp)
    have hy := hb y (by simp)
    obtain ⟨h1, h2⟩ := rowN_inj (a := a) (b := b) (by simpa using hl) (fun z hz => ha z (by simp [hz])) (fun z hz => hb z (by simp [hz])) h
    refine ⟨by omega, ?_⟩
    simp only [List.map_cons, h2]
    congr 1
    omega
theorem whatS_kinds (w : Wheel) : ∀ (l : List Int) (p : Int), (whatS w p l).1.map (·.Kind) = l
  | [], p => rfl
  | k :: l, p => by simp only [whatS, List.map_cons]; rw [whatS_kinds w l]
theorem seen_ext : ∀ {a b : List Seen}, a.map (·.Kind) = b.map (·.Kind) → a.map (·.Plays) = b.map (·.Plays) → a = b
  | [], [], _, _ => rfl
  | [], y :: b, h, _ => by simp at h
  | x :: a, [], h, _ => by simp at h
  | ⟨k, p⟩ :: a, ⟨k', p'⟩ :: b, h, h' => by
    simp only [List.map_cons, List.cons.injEq] at h h'
    rw [seen_ext h.2 h'.2, h.1, h'.1]
theorem whatS_row {w : Wheel} (h : OkW w) {l : List Int} {p : Int} (hl : l.all (okKind w) = true) (h0 : 0 ≤ p) (h1 : p < w.Round) : okRow (whatS w p l).1 ∧ 0 ≤ (whatS w p l).2 ∧ (whatS w p l).2 < w.Round := by
  obtain ⟨a, b⟩ := whatS_ok h hl h0 h1
  have hk := seen_kinds a
  refine ⟨fun x hx => ?_, (giv_range h hk h0 h1 b).1, (giv_range h hk h0 h1 b).2⟩
  have := List.all_eq_true.1 a x hx
  simp only [okSeen, Bool.and_eq_true] at this
  exact inR_iff.1 this.2
theorem row_seen {w : Wheel} (h : OkW w) {l : List Int} {p q : Int} (hl : l.all (okKind w) = true) (p0 : 0 ≤ p) (p1 : p < w.Round) (q0 : 0 ≤ q) (q1 : q < w.Round) : rowN 0 (whatS w p l).1 = rowN 0 (whatS w q l).1 ↔ (whatS w p l).1 = (whatS w q l).1 := by
  constructor
  · intro e
    have := rowN_inj (by rw [whatS_len, whatS_len]) (whatS_row h hl p0 p1).1 (whatS_row h hl q0 q1).1 e
    exact seen_ext (by rw [whatS_kinds, whatS_kinds]) this.2
  · intro e
    rw [e]
theorem p24 : ∀ k : Nat, k ≤ 4 → (2401 : Int) ^ k ≤ 33232930569601
  | 0, _ => by decide
  | 1, _ => by decide
  | 2, _ => by decide
  | 3, _ => by decide
  | 4, _ => by decide
  | k + 5, h => by omega
/-- Up to a place: what was seen tells where the wheel stands. -/
def Agree (w : Wheel) (l : List Int) (i : Nat) : Prop := ∀ p q : Nat, p < i → q < i → (whatS w p l).1 = (whatS w q l).1 → (whatS w p l).2 = (whatS w q l).2
structure InvT (w : Wheel) (l : List Int) (i : Nat) (M : List (Int × Int)) : Prop where
  nd : (M.map (·.1)).Nodup
  all : ∀ e, e ∈ M → ∃ q : Nat, q < i ∧ e.1 = rowN 0 (whatS w q l).1 ∧ e.2 = (whatS w q l).2
  has : ∀ q : Nat, q < i → mhas M (rowN 0 (whatS w q l).1) = true
  agree : Agree w l i
theorem tells_l2 {n : Nat} {w : Wheel} (h : OkW w) (hn : 100 ≤ n) (rec1 : Int → (List (Int × Int)) → Option Bool) {l : List Int} (hl : l.length ≤ 5) (hk : l.all (okKind w) = true) (v2 : Int) (M : List (Int × Int)) {p : Int} (h0 : 0 ≤ p) (h1 : p < w.Round) :
    coins_wheel_tells_l2 n rec1 ⟨w⟩ l v2 M n 0 p 0 = coins_wheel_tells_j3 rec1 v2 M (rowN 0 (whatS w p l).1) (whatS w p l).2 := by
  have key := loopI (F := fun m i (q : Int × Int) => coins_wheel_tells_l2 n rec1 ⟨w⟩ l v2 M m q.1 q.2 i) (xs := l) (spec := fun k q => coins_wheel_tells_j3 rec1 v2 M (rowN q.1 (whatS w q.2 k).1) (whatS w q.2 k).2)
    (I := fun k q => k.all (okKind w) = true ∧ (0 ≤ q.2 ∧ q.2 < w.Round) ∧ 0 ≤ q.1 ∧ q.1 < 2401 ^ (5 - k.length) ∧ k.length ≤ 5) (by omega)
    (fun m q hI => by simp [coins_wheel_tells_l2, coins_wheel_tells_l2_b, whatS, rowN])
    (fun m i x k q hI hx hi _ _ hrec => by
      obtain ⟨i1, i2, i3, i4, i5⟩ := hI
      simp only [List.all_cons, Bool.and_eq_true, List.length_cons] at i1 i4 i5
      have hk := inR_iff.1 i1.1
      have hc := coin_range h hk.1 hk.2
      have ht := turn_range h i2.1 i2.2 (show 0 ≤ coin w x by omega)
      have hpow := p24 (5 - (k.length + 1)) (by omega)
      have hpow2 : (2401 : Int) ^ (5 - k.length) = 2401 ^ (5 - (k.length + 1)) * 2401 := by
        rw [show 5 - k.length = (5 - (k.length + 1)) + 1 by omega, Int.pow_succ]
      simp only [coins_wheel_tells_l2, coins_wheel_tells_l2_b]
      rw [if_pos (by simpa using hi), hx, bnd_some]
      show Option.bind (idx w.Coins x) _ = _
      rw [coin_idx hk.1 hk.2, bnd_some, turn_eq h hn i2.1 i2.2 (by omega) (by omega), bnd_some, w64_id (x := q.1 * 2401) (by omega) (by omega), w64_id (x := q.1 * 2401 + _) (by omega) (by omega)]
      have := hrec (q.1 * 2401 + (turn w q.2 (coin w x)).2, (turn w q.2 (coin w x)).1) ⟨i1.2, ht.1, by simp only; omega, by simp only; rw [hpow2]; omega, by omega⟩
      simp only at this
      rw [this]
      simp only [whatS, rowN])
    l 0 n (0, p) (by omega) rfl (by omega) ⟨hk, ⟨h0, h1⟩, by simp, by simp; exact Int.pow_pos (by omega), hl⟩
  exact key
theorem tells_eq {n : Nat} {w : Wheel} (h : OkW w) (hn : 300 ≤ n) {l : List Int} (hl : l.length ≤ 4) (hk : l.all (okKind w) = true) : ∃ b, coins_wheel_tells n ⟨w⟩ l = some b ∧ (b = true ↔ Agree w l w.Round.toNat) := by
  have hr := h.r2
  have hr1 := h.r1
  have key : ∀ (d i m : Nat) (M : List (Int × Int)), (i : Int) + d = w.Round → d < m → InvT w l i M → ∃ b, coins_wheel_tells_l1 n ⟨w⟩ l m (i : Int) M = some b ∧ (b = true ↔ Agree w l w.Round.toNat) := by
    intro d
    induction d with
    | zero =>
      intro i m M hi hm hI
      obtain ⟨m, rfl⟩ : ∃ q, m = q + 1 := ⟨m - 1, by omega⟩
      refine ⟨true, ?_, ⟨fun _ => ?_, fun _ => rfl⟩⟩
      · simp only [coins_wheel_tells_l1, coins_wheel_tells_l1_b, coins_wheel_tells_j1]
        rw [if_neg (by simp; omega)]
      · rw [show w.Round.toNat = i by omega]
        exact hI.agree
    | succ d ih =>
      intro i m M hi hm hI
      obtain ⟨m, rfl⟩ : ∃ q, m = q + 1 := ⟨m - 1, by omega⟩
      have p0 : (0 : Int) ≤ (i : Int) := by omega
      have p1 : (i : Int) < w.Round := by omega
      have wr := whatS_row h hk p0 p1
      have hrow := rowN_range (l := (whatS w i l).1) (r := 0) (B := 1) wr.1 (by omega) (by omega)
      rw [whatS_len] at hrow
      have hpow := p24 l.length hl
      have hmok : mok okI M (rowN 0 (whatS w i l).1) = true := by
        unfold mok
        rw [okI_of (by omega) (by omega), show M.all (fun p => okI p.1) = true from List.all_eq_true.2 fun e he => ?_, show decide ((M.map (·.1)).Nodup) = true by simpa using hI.nd]
        · rfl
        · obtain ⟨q, q1, q2, _⟩ := hI.all e he
          have wq := whatS_row h (p := (q : Int)) hk (by omega) (by omega)
          have hq := rowN_range (l := (whatS w q l).1) (r := 0) (B := 1) wq.1 (by omega) (by omega)
          rw [whatS_len] at hq
          rw [q2]
          exact okI_of (by omega) (by omega)
      simp only [coins_wheel_tells_l1, coins_wheel_tells_l1_b]
      rw [if_pos (by simp; omega), tells_l2 h (by omega) _ (by omega) hk _ M p0 p1]
      unfold coins_wheel_tells_j3
      have hlook : mlook okI M (rowN 0 (whatS w i l).1) = some (mget M (rowN 0 (whatS w i l).1)) := if_pos hmok
      rw [hlook, bnd_some]
      have next : (∀ q : Nat, q < i → (whatS w q l).1 = (whatS w i l).1 → (whatS w q l).2 = (whatS w i l).2) → InvT w l (i + 1) (mset M (rowN 0 (whatS w i l).1) (whatS w i l).2) := by
        intro hag
        refine ⟨mset_nodup hI.nd, fun e he => ?_, fun q hq => ?_, fun p q hp hq e => ?_⟩
        · rcases mset_mem he with rfl | he
          · exact ⟨i, by omega, rfl, rfl⟩
          · obtain ⟨q, q1, q2⟩ := hI.all e he
            exact ⟨q, by omega, q2⟩
        · rw [mhas_set]
          by_cases e : q = i
          · subst e; exact .inl rfl
          · exact .inr (hI.has q (by omega))
        · by_cases e1 : p = i
          · by_cases e2 : q = i
            · rw [e1, e2]
            · subst e1; exact (hag q (by omega) e.symm).symm
          · by_cases e2 : q = i
            · subst e2; exact hag p (by omega) e
            · exact hI.agree p q (by omega) (by omega) e
      have go : (∀ q : Nat, q < i → (whatS w q l).1 = (whatS w i l).1 → (whatS w q l).2 = (whatS w i l).2) → ∃ b, coins_wheel_tells_j4 (coins_wheel_tells_l1 n ⟨w⟩ l m) (i : Int) M (rowN 0 (whatS w i l).1) (whatS w i l).2 false = some b ∧ (b = true ↔ Agree w l w.Round.toNat) := by
        intro hag
        unfold coins_wheel_tells_j4 coins_wheel_tells_j2
        rw [if_neg (by simp), show mstore okI M (rowN 0 (whatS w i l).1) (whatS w i l).2 = some (mset M (rowN 0 (whatS w i l).1) (whatS w i l).2) from if_pos hmok, bnd_some, w64_id (by omega) (by omega)]
        have := ih (i + 1) m _ (by omega) (by omega) (next hag)
        rw [show (((i + 1 : Nat)) : Int) = (i : Int) + 1 by simp] at this
        exact this
      cases hh : mhas M (rowN 0 (whatS w i l).1) with
      | false =>
        rw [if_neg (by simp)]
        refine go fun q hq e => ?_
        have := hI.has q hq
        rw [e, hh] at this
        cases this
      | true =>
        rw [if_pos rfl]
        obtain ⟨q, q1, q2, q3⟩ := hI.all _ (mget_mem hh)
        simp only at q2 q3
        have hqs : (whatS w q l).1 = (whatS w i l).1 := (row_seen h hk (by omega) (by omega) p0 p1).1 q2.symm
        by_cases e : mget M (rowN 0 (whatS w i l).1) = (whatS w i l).2
        · rw [show (mget M (rowN 0 (whatS w i l).1) != (whatS w i l).2) = false by simpa using e]
          refine go fun q' hq' e' => ?_
          rw [hI.agree q' q hq' q1 (e'.trans hqs.symm), ← q3, e]
        · rw [show (mget M (rowN 0 (whatS w i l).1) != (whatS w i l).2) = true by simpa using e]
          unfold coins_wheel_tells_j4
          rw [if_pos rfl]
          refine ⟨false, rfl, ⟨(fun q => nomatch q), fun hag => ?_⟩⟩
          exact (e (q3.trans (hag q i (by omega) (by omega) hqs))).elim
  exact key w.Round.toNat 0 n [] (by omega) (by omega) ⟨by simp, fun e he => by simp at he, fun q hq => by omega, fun p q hp => by omega⟩
/-! ### The reference: Tells -/
theorem sameSeen_eq {n : Nat} (a b : List Seen) (hl : a.length = b.length) (hs : a.length < 1048576) (hn : a.length < n) : ref01_sameSeen n a b = some (decide (a = b)) := by
  have := loopL0 (F := fun m i (_ : Unit) => ref01_sameSeen_l1 a b m i) (xs := a.zip b) (spec := fun l _ => some (decide (∀ q, q ∈ l → q.1 = q.2))) (n := n) (by simp [← hl]; omega) (by simp [← hl]; omega) () (fun m s => by simp [ref01_sameSeen_l1, ref01_sameSeen_l1_b, ref01_sameSeen_j1, ← hl]) (fun m i x l s hx hi hi' hd hrec => by
    have hi1 : i < a.length := by simp [← hl] at hi; exact hi
    have hi2 : i < b.length := by omega
    have hx' : x = (a[i], b[i]) := by
      rw [idx_nat (by simp; omega)] at hx
      have hx := Option.some.inj hx
      rw [← hx]
      simp
    simp only [ref01_sameSeen_l1, ref01_sameSeen_l1_b]
    rw [if_pos (by simp; omega), idx_nat hi1, idx_nat hi2, bnd_some, bnd_some]
    subst hx'
    by_cases hb : a[i] = b[i]
    · rw [if_neg (by simp [hb]), hrec ()]
      simp [hb]
    · rw [if_pos (by
        cases ha : a[i]; cases hc : b[i]
        rw [ha, hc] at hb
        simp at hb ⊢
        exact (Classical.em _).elim (fun q => .inr (hb q)) .inl)]
      simp [hb])
  unfold ref01_sameSeen
  rw [show ref01_sameSeen_l1 a b n 0 = _ from this]
  congr 1
  apply decide_eq_decide.2
  constructor
  · intro hq
    apply List.ext_getElem hl
    intro i h1 h2
    have := hq (a[i], b[i]) (by
      have h3 : i < (a.zip b).length := by simp; omega
      have : (a.zip b)[i] = (a[i], b[i]) := by simp
      rw [← this]
      exact List.getElem_mem h3)
    exact this
  · rintro rfl q hq
    obtain ⟨i, hi, rfl⟩ := List.getElem_of_mem hq
    simp
theorem Tells_eq {n : Nat} {w : Wheel} (h : OkW w) (hn : 300 ≤ n) {l : List Int} (hl : l.length ≤ 4) (hk : l.all (okKind w) = true) : ∃ b, ref01_Tells n w l = some b ∧ (b = true ↔ Agree w l w.Round.toNat) := by
  have hr := h.r2
  have hr1 := h.r1
  have key : ∀ (d i m : Nat), (i : Int) + d = w.Round → d < m → Agree w l i → ∃ b, ref01_Tells_l1 n w l m ((List.range i).map fun (q : Nat) => (whatS w q l).1) ((List.range i).map fun (q : Nat) => (whatS w q l).2) (i : Int) = some b ∧ (b = true ↔ Agree w l w.Round.toNat) := by
    intro d
    induction d with
    | zero =>
      intro i m hi hm hI
      obtain ⟨m, rfl⟩ : ∃ q, m = q + 1 := ⟨m - 1, by omega⟩
      refine ⟨true, ?_, ⟨fun _ => ?_, fun _ => rfl⟩⟩
      · simp only [ref01_Tells_l1, ref01_Tells_l1_b, ref01_Tells_j1]
        rw [if_neg (by simp; omega)]
      · rw [show w.Round.toNat = i by omega]
        exact hI
    | succ d ih =>
      intro i m hi hm hI
      obtain ⟨m, rfl⟩ : ∃ q, m = q + 1 := ⟨m - 1, by omega⟩
      have p0 : (0 : Int) ≤ (i : Int) := by omega
      have p1 : (i : Int) < w.Round := by omega
      simp only [ref01_Tells_l1, ref01_Tells_l1_b]
      rw [if_pos (by simp; omega), What_eq h (by omega) (by omega) (by omega) hk p0 p1, bnd_some]
      have inner : ∀ (e j m' : Nat), j + e = i → e < m' → (∀ q : Nat, q < j → (whatS w q l).1 = (whatS w i l).1 → (whatS w q l).2 = (whatS w i l).2) →
          ∃ b, ref01_Tells_l2 n (ref01_Tells_l1 n w l m) ((List.range i).map fun (q : Nat) => (whatS w q l).1) ((List.range i).map fun (q : Nat) => (whatS w q l).2) (i : Int) (whatS w i l) m' (j : Int) = some b ∧ (b = true ↔ Agree w l w.Round.toNat) := by
        intro e
        induction e with
        | zero =>
          intro j m' hj hm' hag
          obtain ⟨m', rfl⟩ : ∃ q, m' = q + 1 := ⟨m' - 1, by omega⟩
          have e0 : j = i := by omega
          subst e0
          simp only [ref01_Tells_l2, ref01_Tells_l2_b, ref01_Tells_j3, ref01_Tells_j2]
          rw [if_neg (by simp), app_ok (by simp; omega), bnd_some, app_ok (by simp; omega), bnd_some, w64_id (by omega) (by omega)]
          have hag2 : Agree w l (j + 1) := by
            intro p q hp hq e
            by_cases e1 : p = j
            · by_cases e2 : q = j
              · rw [e1, e2]
              · subst e1; exact (hag q (by omega) e.symm).symm
            · by_cases e2 : q = j
              · subst e2; exact hag p (by omega) e
              · exact hI p q (by omega) (by omega) e
          have := ih (j + 1) m (by omega) (by omega) hag2
          rw [List.range_succ, List.map_append, List.map_append, show (((j + 1 : Nat)) : Int) = (j : Int) + 1 by simp] at this
          exact this
        | succ e ihe =>
          intro j m' hj hm' hag
          obtain ⟨m', rfl⟩ : ∃ q, m' = q + 1 := ⟨m' - 1, by omega⟩
          have hrec := ihe (j + 1) m' (by omega) (by omega)
          rw [show (((j + 1 : Nat)) : Int) = (j : Int) + 1 by simp] at hrec
          simp only [ref01_Tells_l2, ref01_Tells_l2_b, ref01_Tells_j4]
          rw [if_pos (by simp; omega), idx_nat (by simp; omega), bnd_some, List.getElem_map, List.getElem_range]
          by_cases q1 : (whatS w j l).2 = (whatS w i l).2
          · rw [if_neg (by simpa using q1), if_neg (by simp), w64_id (by omega) (by omega)]
            exact hrec fun q hq e' => by
              by_cases q2 : q = j
              · subst q2; exact q1
              · exact hag q (by omega) e'
          · rw [if_pos (by simpa using q1), idx_nat (by simp; omega), bnd_some, List.getElem_map, List.getElem_range, sameSeen_eq _ _ (by rw [whatS_len, whatS_len]) (by rw [whatS_len]; omega) (by rw [whatS_len]; omega), bnd_some]
            by_cases q2 : (whatS w j l).1 = (whatS w i l).1
            · rw [if_pos (by simpa using q2)]
              refine ⟨false, rfl, ⟨(fun q => nomatch q), fun hag' => ?_⟩⟩
              exact (q1 (hag' j i (by omega) (by omega) q2)).elim
            · rw [if_neg (by simpa using q2), w64_id (by omega) (by omega)]
              exact hrec fun q hq e' => by
                by_cases q3 : q = j
                · subst q3; exact (q2 e').elim
                · exact hag q (by omega) e'
      exact inner i 0 n (by omega) (by omega) (fun q hq => by omega)
  exact key w.Round.toNat 0 n (by omega) (by omega) (fun p q hp => by omega)
def tellB (w : Wheel) (l : List Int) : Bool := (coins_wheel_tells 20000 ⟨w⟩ l).getD false
theorem tellB_eq {w : Wheel} (h : OkW w) {l : List Int} (hl : l.length ≤ 4) (hk : l.all (okKind w) = true) : coins_wheel_tells 20000 ⟨w⟩ l = some (tellB w l) ∧ ref01_Tells 20000 w l = some (tellB w l) ∧ (tellB w l = true ↔ Agree w l w.Round.toNat) := by
  obtain ⟨b, h1, h2⟩ := tells_eq h (n := 20000) (by omega) hl hk
  obtain ⟨c, h3, h4⟩ := Tells_eq h (n := 20000) (by omega) hl hk
  have e : tellB w l = b := by
    unfold tellB
    rw [h1]; rfl
  have ebc : b = c := by rw [Bool.eq_iff_iff, h2, h4]
  rw [e]
  exact ⟨h1, ebc ▸ h3, h2⟩
/-! ### Lists of kinds -/
def exts (w : Wheel) (l : List Int) : List (List Int) := (upF 0 w.Coins.length).map fun j => l ++ [j]
def lev (w : Wheel) : Nat → List (List Int)
  | 0 => [[]]
  | k + 1 => (lev w k).flatMap (exts w)
theorem exts_len (w : Wheel) (l : List Int) : (exts w l).length = w.Coins.length := by simp [exts, upF_len]
theorem lev_len (w : Wheel) : ∀ k, (lev w k).length = w.Coins.length ^ k
  | 0 => rfl
  | k + 1 => by
    rw [lev, flatMap_len (c := w.Coins.length) (fun x _ => exts_len w x), lev_len w k, Nat.pow_succ]
theorem lev_ok (w : Wheel) : ∀ (k : Nat) (l : List Int), l ∈ lev w k → l.length = k ∧ l.all (okKind w) = true
  | 0, l, h => by
    simp only [lev, List.mem_singleton] at h
    subst h
    exact ⟨rfl, rfl⟩
  | k + 1, l, h => by
    simp only [lev, List.mem_flatMap, exts, List.mem_map, upF_mem] at h
    obtain ⟨l', h1, j, h2, rfl⟩ := h
    obtain ⟨a, b⟩ := lev_ok w k l' h1
    refine ⟨by simp [a], ?_⟩
    rw [List.all_append, b]
    simp only [List.all_cons, List.all_nil, Bool.and_true, Bool.true_and]
    exact inR_iff.2 ⟨by omega, by omega⟩
theorem tell_l3 {n : Nat} (rec2 : (List (List Int)) → Int → Option ((List Int) × Int)) (w : Wheel) (hw : w.Coins.length ≤ 4) (hn : 100 ≤ n) (v11 : Int) (x : List Int) (hx : x.length ≤ 4) (out : List (List Int)) (ho : out.length ≤ 10000) :
    coins_Tell_l3 rec2 w v11 x n out 0 = coins_Tell_j4 rec2 v11 (out ++ exts w x) := by
  have key : ∀ (d i m : Nat) (out : List (List Int)), d = w.Coins.length - i → i ≤ w.Coins.length → d < m → out.length + d ≤ 20000 → coins_Tell_l3 rec2 w v11 x m out (i : Int) = coins_Tell_j4 rec2 v11 (out ++ (upF i d).map fun j => x ++ [j]) := by
    intro d
    induction d with
    | zero =>
      intro i m out hd hi hm ho
      obtain ⟨m, rfl⟩ : ∃ q, m = q + 1 := ⟨m - 1, by omega⟩
      simp only [coins_Tell_l3, coins_Tell_l3_b]
      rw [if_neg (by simp; omega)]
      simp [upF]
    | succ d ih =>
      intro i m out hd hi hm ho
      obtain ⟨m, rfl⟩ : ∃ q, m = q + 1 := ⟨m - 1, by omega⟩
      simp only [coins_Tell_l3, coins_Tell_l3_b, slices_Clone_int]
      rw [if_pos (by simp; omega), app_nil (by omega), bnd_some, app_ok (by simp; omega), bnd_some, app_ok (by simp; omega), bnd_some, w64_id (by omega) (by omega)]
      have := ih (i + 1) m (out ++ [x ++ [(i : Int)]]) (by omega) (by omega) (by omega) (by simp; omega)
      rw [show (((i + 1 : Nat)) : Int) = (i : Int) + 1 by simp] at this
      rw [this]
      simp [upF]
  exact key w.Coins.length 0 n out (by omega) (by omega) (by omega) (by omega)
theorem pow_small {c k : Nat} (hc : c ≤ 4) (hk : k ≤ 5) : c ^ k ≤ 1024 := by
  have h1 : c ^ k ≤ 4 ^ k := Nat.pow_le_pow_left hc k
  have h2 : 4 ^ k ≤ 4 ^ 5 := Nat.pow_le_pow_right (by omega) hk
  omega
def tellS (w : Wheel) : Nat → Nat → List Int × Int
  | 0, _ => ([], 3)
  | d + 1, k => match (lev w k).find? (tellB w) with
    | some l => (l, 0)
    | none => tellS w d (k + 1)
def lenS (w : Wheel) : Nat → Nat → Int
  | 0, _ => -1
  | d + 1, k => if (lev w k).any (tellB w) = true then (k : Int) else lenS w d (k + 1)
theorem tell_len (w : Wheel) : ∀ (d k : Nat), ((tellS w d k).2 = 0 ∧ (∃ j, k ≤ j ∧ j < k + d ∧ (tellS w d k).1 ∈ lev w j ∧ tellB w (tellS w d k).1 = true ∧ lenS w d k = j)) ∨ (tellS w d k = ([], 3) ∧ lenS w d k = -1)
  | 0, k => .inr ⟨rfl, rfl⟩
  | d + 1, k => by
    simp only [tellS, lenS]
    cases hf : (lev w k).find? (tellB w) with
    | some l =>
      have h1 := List.mem_of_find?_eq_some hf
      have h2 := List.find?_some hf
      rw [if_pos (List.any_eq_true.2 ⟨l, h1, h2⟩)]
      exact .inl ⟨rfl, k, by omega, by omega, h1, h2, rfl⟩
    | none =>
      rw [if_neg (by
        rw [List.any_eq_true]
        rintro ⟨l, h1, h2⟩
        exact List.find?_eq_none.1 hf l h1 h2)]
      rcases tell_len w d (k + 1) with ⟨a, j, b, c, e⟩ | h
      · exact .inl ⟨a, j, by omega, by omega, e⟩
      · exact .inr h
theorem Tell_l1 {w : Wheel} (h : OkW w) : ∀ (d i m : Nat), i + d = 5 → d < m → coins_Tell_l1 20000 w ((⟨w⟩, 0), ()) m (lev w i) (i : Int) = some (tellS w d i) := by
  have hc := h.clen
  intro d
  induction d with
  | zero =>
    intro i m hi hm
    obtain ⟨m, rfl⟩ : ∃ q, m = q + 1 := ⟨m - 1, by omega⟩
    simp only [coins_Tell_l1, coins_Tell_l1_b, coins_Tell_j1]
    rw [if_neg (by simp; omega)]
    rfl
  | succ d ih =>
    intro i m hi hm
    obtain ⟨m, rfl⟩ : ∃ q, m = q + 1 := ⟨m - 1, by omega⟩
    have hll := lev_len w i
    have hps := pow_small hc (show i ≤ 5 by omega)
    simp only [coins_Tell_l1, coins_Tell_l1_b]
    rw [if_pos (by simp; omega)]
    have k2 := loopI (F := fun m' j (s : List (List Int)) => coins_Tell_l2 20000 (coins_Tell_l1 20000 w ((⟨w⟩, 0), ()) m) w ((⟨w⟩, 0), ()) (lev w i) (i : Int) m' s j) (xs := lev w i)
      (spec := fun k s => match k.find? (tellB w) with | some l => some (l, 0) | none => coins_Tell_j3 (coins_Tell_l1 20000 w ((⟨w⟩, 0), ()) m) (i : Int) (s ++ k.flatMap (exts w))) (I := fun k s => (∀ x, x ∈ k → x ∈ lev w i) ∧ s.length + 4 * k.length ≤ 9000) (by omega)
      (fun m' s hI => by simp [coins_Tell_l2, coins_Tell_l2_b])
      (fun m' j x k s hI hx hj _ _ hrec => by
        simp only [List.length_cons] at hI
        obtain ⟨o1, o2⟩ := lev_ok w i x (hI.1 x (by simp))
        simp only [coins_Tell_l2, coins_Tell_l2_b]
        rw [if_pos (by simpa using hj), hx, bnd_some, (tellB_eq h (by omega) o2).1, bnd_some]
        by_cases q : tellB w x = true
        · rw [if_pos q, List.find?_cons_of_pos q]
        · rw [if_neg q, List.find?_cons_of_neg q, tell_l3 _ w hc (by omega) _ x (by omega) s (by omega)]
          unfold coins_Tell_j4
          rw [hrec (s ++ exts w x) ⟨fun y hy => hI.1 y (by simp [hy]), by simp [exts_len]; omega⟩]
          simp)
      (lev w i) 0 20000 [] (by omega) rfl (by omega) ⟨fun x hx => hx, by simp; omega⟩
    rw [show coins_Tell_l2 20000 (coins_Tell_l1 20000 w ((⟨w⟩, 0), ()) m) w ((⟨w⟩, 0), ()) (lev w i) (i : Int) 20000 [] 0 = _ from k2]
    simp only [tellS]
    cases hf : (lev w i).find? (tellB w) with
    | some l => rfl
    | none =>
      simp only
      unfold coins_Tell_j3 coins_Tell_j2
      rw [List.nil_append, w64_id (by omega) (by omega), show (i : Int) + 1 = ((i + 1 : Nat) : Int) by simp]
      exact ih (i + 1) m (by omega) (by omega)
theorem Tell_eq {w : Wheel} (hl : okLen 20000 w) : coins_Tell 20000 w = some (if valid w = true then tellS w 5 0 else ([], 10)) := by
  unfold coins_Tell
  rw [open_eq hl _ true (fun hv => rfl), bnd_some]
  cases hv : valid w with
  | false => rfl
  | true =>
    simp only [cond_true, bne_self_eq_false, Bool.false_eq_true, if_false, if_true]
    exact Tell_l1 (valid_ok hv) 5 0 20000 (by omega) (by omega)
theorem giv_what {w : Wheel} : ∀ {l : List Int} {p q x : Int}, giv w p (whatS w q l).1 = some x → (whatS w p l).1 = (whatS w q l).1 ∧ (whatS w p l).2 = x
  | [], p, q, x, h => by
    simp only [whatS, giv, Option.some.injEq] at h
    exact ⟨rfl, h⟩
  | k :: l, p, q, x, h => by
    simp only [whatS, giv] at h
    split at h
    · rename_i e
      obtain ⟨h1, h2⟩ := giv_what h
      simp only [whatS]
      rw [h1, h2, e]
      exact ⟨rfl, rfl⟩
    · cases h
theorem single {l : List Int} {a : Int} (hp : l.Pairwise (· < ·)) (h : ∀ x, x ∈ l ↔ x = a) : l = [a] := lt_lists hp (by simp) (fun x => by rw [h]; simp)
theorem law_CoinsTold (w : Wheel) (p : Int) : law01_CoinsTold 20000 w p = some true := by
  have hw : law01_CoinsTold_j1 20000 w p true = some true := by
    unfold law01_CoinsTold_j1
    rw [works01]; rfl
  unfold law01_CoinsTold
  rw [isWheel_eq (by omega), bnd_some]
  cases hq : (!farW w && valid w) with
  | false => exact hw
  | true =>
  simp only [Bool.and_eq_true, Bool.not_eq_true'] at hq
  obtain ⟨hf, hv⟩ := hq
  have h := valid_ok hv
  have hl := farW_len hf (n := 20000) (by omega)
  simp only [Bool.not_true, Bool.false_eq_true, if_false]
  by_cases q1 : w.Round > 60
  · rw [if_pos (by simpa using q1)]; exact hw
  rw [if_neg (by simpa using q1), IsPlace_eq h, bnd_some]
  cases hp : okPlace w p with
  | false => exact hw
  | true =>
  have hpp := inR_iff.1 hp
  have p1 : p < w.Round := by omega
  unfold law01_CoinsTold_j1
  simp only [Bool.not_true, Bool.false_eq_true, if_false]
  rw [Tell_eq hl, if_pos hv, bnd_some]
  rcases tell_len w 5 0 with ⟨a, j, b, c, e1, e2, e3⟩ | ⟨a, b⟩
  · obtain ⟨o1, o2⟩ := lev_ok w j _ e1
    have o2' : (tellS w 5 0).1.all (fun x => inR x 0 (w.Coins.length - 1)) = true := o2
    rw [a]
    simp only [bne_self_eq_false, Bool.false_eq_true, if_false]
    rw [if_neg (by simp; omega), AreKinds_eq hl.2.1 _ 0 (by omega) (by omega), bnd_some, o2', show decide (((tellS w 5 0).1.length : Int) ≤ 20) = true by simp; omega]
    unfold law01_CoinsTold_j3
    simp only [Bool.and_self, Bool.not_true, Bool.false_eq_true, if_false]
    generalize hkk : (tellS w 5 0).1 = kinds at o1 o2 o2' e1 e2
    obtain ⟨s1, s2⟩ := whatS_ok h o2 hpp.1 p1
    have sl := whatS_len w kinds p
    have ho : okSeens w (whatS w p kinds).1 = true := by
      unfold okSeens
      rw [s1, show decide (((whatS w p kinds).1.length : Int) ≤ 20) = true by simp; omega]
      rfl
    obtain ⟨n1, n2⟩ := now_in h hv ho hpp.1 p1 s2
    have hag := (tellB_eq h (by omega) o2).2.2.1 e2
    have hnow : (nowS w (whatS w p kinds).1).1 = [(whatS w p kinds).2] := by
      have hlt : (nowS w (whatS w p kinds).1).1.Pairwise (· < ·) := by
        unfold nowS
        split
        · rw [uniq_order (afters_range h (seen_kinds s1))]
          exact inOrder_lt _ _ _
        · exact .nil
      refine single hlt fun x => ?_
      rw [n2]
      constructor
      · rintro ⟨q, q0, q1', q2⟩
        obtain ⟨g1, g2⟩ := giv_what q2
        have := hag q.toNat p.toNat (by omega) (by omega) (by rw [show ((q.toNat : Nat) : Int) = q by omega, show ((p.toNat : Nat) : Int) = p by omega]; exact g1)
        rw [show ((q.toNat : Nat) : Int) = q by omega, show ((p.toNat : Nat) : Int) = p by omega] at this
        rw [← g2, this]
      · rintro rfl
        exact ⟨p, hpp.1, p1, s2⟩
    rw [What_eq h (by omega) (by omega) (by omega) o2 hpp.1 p1, bnd_some, Now_eq hl (by omega) (by omega) (by omega), bnd_some, n1, hnow, SameInts_self _ (by simp) (by simp), bnd_some, works01]
    rfl
  · rw [a]
    simp [law01_CoinsTold_j2, works01]
end Go.Law
