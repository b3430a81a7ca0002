/-
  Plain laws.
  Conditions: none.
-/
import Derived.Test.YtapcibbbmeomkaaMd
import Derived.Test.YtapcibbbmeomkaaPlA
import Derived.Test.YtapcibbbmeomkaaAmSd
set_option linter.all false
namespace Go.Law
open Go Go.AM

/-- A loop over a list. -/
theorem loopL {α S R : Type} (F : Nat → Int → S → Option R) (xs : List α) (spec : List α → S → Option R) (hl : xs.length < 1048576) (h0 : ∀ m s, F (m + 1) (xs.length : Int) s = spec [] s)
    (hs : ∀ m (i : Nat) x l s, idx xs (i : Int) = some x → (i : Int) < (xs.length : Int) → i < 1048576 → xs.drop (i + 1) = l → (∀ s', F m (w64 ((i : Int) + 1)) s' = spec l s') → F (m + 1) (i : Int) s = spec (x :: l) s) :
    ∀ (l : List α) (i m : Nat) (s : S), i ≤ xs.length → xs.drop i = l → l.length < m → F m (i : Int) s = spec l s := by
  intro l
  induction l with
  | nil =>
    intro i m s hi hd hm
    obtain ⟨m, rfl⟩ : ∃ k, m = k + 1 := ⟨m - 1, by omega⟩
    have : i = xs.length := by have := List.drop_eq_nil_iff.1 hd; omega
    subst this
    exact h0 m s
  | cons x l ih =>
    intro i m s hi hd hm
    obtain ⟨m, rfl⟩ : ∃ k, m = k + 1 := ⟨m - 1, by omega⟩
    simp only [List.length_cons] at hm
    have hlt : i < xs.length := by
      rcases Nat.lt_or_ge i xs.length with h | h
      · exact h
      · rw [List.drop_eq_nil_of_le h] at hd; cases hd
    rw [List.drop_eq_getElem_cons hlt] at hd
    injection hd with h1 h2
    refine hs m i x l s (by rw [idx_nat hlt, h1]) (by omega) (by omega) h2 fun s' => ?_
    rw [w64_id (by omega) (by omega)]
    exact ih (i + 1) m s' (by omega) h2 (by omega)
theorem loopL0 {α S R : Type} {F : Nat → Int → S → Option R} {xs : List α} {spec : List α → S → Option R} (hl : xs.length < 1048576) {n : Nat} (hn : xs.length < n) (s : S) (h0 : ∀ m s, F (m + 1) (xs.length : Int) s = spec [] s)
    (hs : ∀ m (i : Nat) x l s, idx xs (i : Int) = some x → (i : Int) < (xs.length : Int) → i < 1048576 → xs.drop (i + 1) = l → (∀ s', F m (w64 ((i : Int) + 1)) s' = spec l s') → F (m + 1) (i : Int) s = spec (x :: l) s) :
    F n 0 s = spec xs s := loopL F xs spec hl h0 hs xs 0 n s (by omega) rfl hn
/-- The same, where something must stand. -/
theorem loopI {α S R : Type} (F : Nat → Int → S → Option R) (xs : List α) (spec : List α → S → Option R) (I : List α → S → Prop) (hl : xs.length < 1048576) (h0 : ∀ m s, I [] s → F (m + 1) (xs.length : Int) s = spec [] s)
    (hs : ∀ m (i : Nat) x l s, I (x :: l) s → idx xs (i : Int) = some x → (i : Int) < (xs.length : Int) → i < 1048576 → xs.drop (i + 1) = l → (∀ s', I l s' → F m (w64 ((i : Int) + 1)) s' = spec l s') → F (m + 1) (i : Int) s = spec (x :: l) s) :
    ∀ (l : List α) (i m : Nat) (s : S), i ≤ xs.length → xs.drop i = l → l.length < m → I l s → F m (i : Int) s = spec l s := by
  intro l
  induction l with
  | nil =>
    intro i m s hi hd hm hI
    obtain ⟨m, rfl⟩ : ∃ k, m = k + 1 := ⟨m - 1, by omega⟩
    have : i = xs.length := by have := List.drop_eq_nil_iff.1 hd; omega
    subst this
    exact h0 m s hI
  | cons x l ih =>
    intro i m s hi hd hm hI
    obtain ⟨m, rfl⟩ : ∃ k, m = k + 1 := ⟨m - 1, by omega⟩
    simp only [List.length_cons] at hm
    have hlt : i < xs.length := by
      rcases Nat.lt_or_ge i xs.length with h | h
      · exact h
      · rw [List.drop_eq_nil_of_le h] at hd; cases hd
    rw [List.drop_eq_getElem_cons hlt] at hd
    injection hd with h1 h2
    refine hs m i x l s hI (by rw [idx_nat hlt, h1]) (by omega) (by omega) h2 fun s' hI' => ?_
    rw [w64_id (by omega) (by omega)]
    exact ih (i + 1) m s' (by omega) h2 (by omega) hI'
theorem bnd_some {α β : Type} (a : α) (f : α → Option β) : Option.bind (some a) f = f a := rfl
theorem within_eq (a b c : Int) : coins_within a b c = some (inR a b c) := by
  unfold coins_within coins_within_j1 inR
  by_cases h : b ≤ a <;> simp [h]
theorem Within_eq (a b c : Int) : ref01_Within a b c = some (inR a b c) := by
  unfold ref01_Within ref01_Within_j1 inR
  by_cases h : b ≤ a <;> simp [h]
/-- Do numbers rise, behind another one. -/
def rise (lo hi : Int) : Option Int → List Int → Bool
  | _, [] => true
  | prev, x :: l => inR x lo hi && (match prev with | none => true | some y => decide (y < x)) && rise lo hi (some x) l
theorem nil_or_last (pre : List Int) : pre = [] ∨ ∃ q y, pre = q ++ [y] := by
  rcases List.eq_nil_or_concat pre with h | ⟨q, y, h⟩
  · exact .inl h
  · exact .inr ⟨q, y, by simpa using h⟩
theorem idx_last (q : List Int) (y : Int) (l : List Int) (h : (q ++ [y] ++ l).length < 1048576) : idx (q ++ [y] ++ l) (w64 (((q ++ [y]).length : Int) - 1)) = some y := by
  simp at h
  rw [w64_id (by simp <;> omega) (by simp <;> omega), show (((q ++ [y]).length : Int) - 1) = (q.length : Int) by simp, show q ++ [y] ++ l = q ++ y :: l by simp, idx_mid]
theorem Rising_l (lo hi : Int) : ∀ (l pre : List Int) (m : Nat), (pre ++ l).length < 1048576 → l.length < m →
    ref01_Rising_l1 (pre ++ l) lo hi m (pre.length : Int) = some (rise lo hi pre.getLast? l) := by
  intro l
  induction l with
  | nil =>
    intro pre m hs hm
    obtain ⟨m, rfl⟩ : ∃ k, m = k + 1 := ⟨m - 1, by omega⟩
    simp [ref01_Rising_l1, ref01_Rising_l1_b, ref01_Rising_j1, rise]
  | cons x l ih =>
    intro pre m hs hm
    obtain ⟨m, rfl⟩ : ∃ k, m = k + 1 := ⟨m - 1, by omega⟩
    have h := ih (pre ++ [x]) m (by simpa using hs) (by simp at hm; omega)
    rw [show (((pre ++ [x]).length : Nat) : Int) = (pre.length : Int) + 1 by simp, List.getLast?_concat, show pre ++ [x] ++ l = pre ++ x :: l by simp] at h
    simp at hs hm
    simp only [ref01_Rising_l1, ref01_Rising_l1_b]
    rw [if_pos (by simp <;> omega), idx_mid]
    simp only [Option.bind_some, Within_eq, rise]
    by_cases hr : inR x lo hi = true
    · rw [if_neg (by simp [hr])]
      rcases nil_or_last pre with rfl | ⟨q, y, rfl⟩
      · rw [if_neg (by simp)]
        simp only [ref01_Rising_j2]
        rw [if_neg (by simp), w64_id (by simp) (by simp), h]
        simp [hr]
      · rw [if_pos (by simp <;> omega), idx_last q y (x :: l) (by simp at hs ⊢; omega)]
        simp only [Option.bind_some, ref01_Rising_j2, List.getLast?_concat]
        by_cases hb : x ≤ y
        · rw [if_pos (by simpa using hb)]
          simp [hr, show ¬ y < x by omega]
        · rw [if_neg (by simpa using hb), w64_id (by omega) (by omega), h]
          simp [hr, show y < x by omega]
    · have hr' : inR x lo hi = false := by simpa using hr
      rw [if_pos (by simp [hr'])]
      simp [ref01_Rising_j2, hr']
theorem Rising_eq {n : Nat} (l : List Int) (lo hi : Int) (hs : l.length < 1048576) (hn : l.length < n) : ref01_Rising n l lo hi = some (rise lo hi none l) := Rising_l lo hi l [] n (by simpa using hs) hn
theorem rising_l (many most : Int) : ∀ (l pre : List Int) (m : Nat), (pre ++ l).length < 1048576 → l.length < m →
    coins_rising_l1 (pre ++ l) many most m (pre.length : Int) = some (rise 1 most pre.getLast? l && decide (((pre ++ l).length : Int) ≤ many)) := by
  intro l
  induction l with
  | nil =>
    intro pre m hs hm
    obtain ⟨m, rfl⟩ : ∃ k, m = k + 1 := ⟨m - 1, by omega⟩
    simp [coins_rising_l1, coins_rising_l1_b, coins_rising_j1, rise]
  | cons x l ih =>
    intro pre m hs hm
    obtain ⟨m, rfl⟩ : ∃ k, m = k + 1 := ⟨m - 1, by omega⟩
    have h := ih (pre ++ [x]) m (by simpa using hs) (by simp at hm; omega)
    rw [show (((pre ++ [x]).length : Nat) : Int) = (pre.length : Int) + 1 by simp, List.getLast?_concat, show pre ++ [x] ++ l = pre ++ x :: l by simp] at h
    simp at hs hm
    simp only [coins_rising_l1, coins_rising_l1_b]
    rw [if_pos (by simp <;> omega), idx_mid]
    simp only [Option.bind_some, within_eq, rise]
    by_cases hr : inR x 1 most = true
    · rw [if_neg (by simp [hr])]
      rcases nil_or_last pre with rfl | ⟨q, y, rfl⟩
      · rw [if_neg (by simp)]
        simp only [coins_rising_j2]
        rw [if_neg (by simp), w64_id (by simp) (by simp), h]
        simp [hr]
      · rw [if_pos (by simp <;> omega), idx_last q y (x :: l) (by simp at hs ⊢; omega)]
        simp only [Option.bind_some, coins_rising_j2, List.getLast?_concat]
        by_cases hb : x ≤ y
        · rw [if_pos (by simpa using hb)]
          simp [hr, show ¬ y < x by omega]
        · rw [if_neg (by simpa using hb), w64_id (by omega) (by omega), h]
          simp [hr, show y < x by omega]
    · have hr' : inR x 1 most = false := by simpa using hr
      rw [if_pos (by simp [hr'])]
      simp [coins_rising_j2, hr']
theorem rising_eq {n : Nat} (l : List Int) (many most : Int) (hs : l.length < 1048576) (hn : l.length < n) : coins_rising n l many most = some (rise 1 most none l && decide ((l.length : Int) ≤ many)) := rising_l many most l [] n (by simpa using hs) hn
/-- Is a wheel valid. -/
def valid (w : Wheel) : Bool := inR w.Round 1 200 && (rise 1 w.Round none w.Notches && decide ((w.Notches.length : Int) ≤ 12)) && (rise 1 100 none w.Coins && decide ((w.Coins.length : Int) ≤ 4))
def okLen (n : Nat) (w : Wheel) : Prop := w.Notches.length < 1048576 ∧ w.Coins.length < 1048576 ∧ w.Notches.length < n ∧ w.Coins.length < n
theorem Check_eq {n : Nat} {w : Wheel} (h : okLen n w) : coins_Check n w = some (cond (valid w) 0 10) := by
  obtain ⟨h1, h2, h3, h4⟩ := h
  unfold coins_Check coins_Check_j1 valid
  rw [within_eq, bnd_some, rising_eq _ _ _ h1 h3, rising_eq _ _ _ h2 h4, bnd_some, bnd_some]
  cases inR w.Round 1 200 <;> cases (rise 1 w.Round none w.Notches && decide ((w.Notches.length : Int) ≤ 12)) <;> cases (rise 1 100 none w.Coins && decide ((w.Coins.length : Int) ≤ 4)) <;> rfl
theorem rCheck_eq {n : Nat} {w : Wheel} (h : okLen n w) : ref01_Check n w = some (cond (valid w) 0 10) := by
  obtain ⟨h1, h2, h3, h4⟩ := h
  unfold ref01_Check ref01_Check_j1 valid
  rw [Within_eq, bnd_some, Rising_eq _ _ _ h1 h3, Rising_eq _ _ _ h2 h4, bnd_some, bnd_some]
  by_cases q1 : (w.Notches.length : Int) ≤ 12
  · have e1 : decide ((w.Notches.length : Int) > 12) = false := by simpa using q1
    rw [e1]
    by_cases q2 : (w.Coins.length : Int) ≤ 4
    · have e2 : decide ((w.Coins.length : Int) > 4) = false := by simpa using q2
      rw [e2]
      simp only [q1, q2, decide_true, Bool.and_true]
      cases inR w.Round 1 200 <;> cases rise 1 w.Round none w.Notches <;> cases rise 1 100 none w.Coins <;> rfl
    · have e2 : decide ((w.Coins.length : Int) > 4) = true := by simp; omega
      rw [e2]
      simp only [q2, decide_false, Bool.and_false]
      cases inR w.Round 1 200 <;> cases rise 1 w.Round none w.Notches <;> rfl
  · have e1 : decide ((w.Notches.length : Int) > 12) = true := by simp; omega
    rw [e1]
    simp only [q1, decide_false, Bool.and_false, Bool.false_and]
    cases inR w.Round 1 200 <;> rfl
theorem rise_mem {lo hi : Int} : ∀ {l : List Int} {p : Option Int}, rise lo hi p l = true → (∀ x, x ∈ l → lo ≤ x ∧ x ≤ hi ∧ ∀ y, p = some y → y < x) ∧ l.Pairwise (· < ·)
  | [], _, _ => ⟨fun x h => by simp at h, .nil⟩
  | x :: l, p, h => by
    simp only [rise, Bool.and_eq_true] at h
    obtain ⟨⟨h1, h2⟩, h3⟩ := h
    obtain ⟨ih1, ih2⟩ := rise_mem h3
    have h1' := inR_iff.1 h1
    have hp : ∀ y, p = some y → y < x := fun y e => by subst e; simpa using h2
    refine ⟨fun z hz => ?_, List.pairwise_cons.2 ⟨fun z hz => (ih1 z hz).2.2 x rfl, ih2⟩⟩
    rcases List.mem_cons.1 hz with rfl | hz
    · exact ⟨h1'.1, h1'.2, hp⟩
    · have := ih1 z hz
      exact ⟨this.1, this.2.1, fun y e => Int.lt_trans (hp y e) (this.2.2 x rfl)⟩
/-- What a valid wheel is. -/
structure OkW (w : Wheel) : Prop where
  r1 : 1 ≤ w.Round
  r2 : w.Round ≤ 200
  nlen : w.Notches.length ≤ 12
  clen : w.Coins.length ≤ 4
  nm : ∀ x, x ∈ w.Notches → 1 ≤ x ∧ x ≤ w.Round
  nd : w.Notches.Pairwise (· < ·)
  cm : ∀ x, x ∈ w.Coins → 1 ≤ x ∧ x ≤ 100
  cd : w.Coins.Pairwise (· < ·)
theorem valid_ok {w : Wheel} (h : valid w = true) : OkW w := by
  simp only [valid, Bool.and_eq_true, decide_eq_true_eq] at h
  obtain ⟨⟨h1, h2, h3⟩, h4, h5⟩ := h
  have h1 := inR_iff.1 h1
  obtain ⟨a1, a2⟩ := rise_mem h2
  obtain ⟨b1, b2⟩ := rise_mem h4
  exact ⟨h1.1, h1.2, by omega, by omega, fun x hx => ⟨(a1 x hx).1, (a1 x hx).2.1⟩, a2, fun x hx => ⟨(b1 x hx).1, (b1 x hx).2.1⟩, b2⟩
theorem OkW.len {w : Wheel} (h : OkW w) {n : Nat} (hn : 100 ≤ n) : okLen n w := ⟨by have := h.nlen; omega, by have := h.clen; omega, by have := h.nlen; omega, by have := h.clen; omega⟩

theorem In_eq {n : Nat} (l : List Int) (x : Int) (hs : l.length < 1048576) (hn : l.length < n) : ref01_In n l x = some (decide (x ∈ l)) := by
  have := loopL0 (F := fun m i (_ : Unit) => ref01_In_l1 l x m i) (xs := l) (spec := fun l _ => some (decide (x ∈ l))) (n := n) hs hn () (fun m s => by simp [ref01_In_l1, ref01_In_l1_b, ref01_In_j1]) (fun m i y l s hx hi _ _ hrec => by
    simp only [ref01_In_l1, ref01_In_l1_b]
    rw [if_pos (by simpa using hi), hx, bnd_some]
    by_cases h : y = x
    · rw [if_pos (by simpa using h)]
      simp [h]
    · rw [if_neg (by simpa using h), hrec ()]
      simp [Ne.symm h])
  exact this

/-! ### Cents -/
def nx (R p : Int) : Int := if p + 1 = R then 0 else p + 1
def hit (w : Wheel) (p : Int) : Int := if p + 1 ∈ w.Notches then 1 else 0
/-- The place and the plays after so many cents. -/
def put (w : Wheel) : Nat → Int → Int → Int × Int
  | 0, p, c => (p, c)
  | k + 1, p, c => put w k (nx w.Round p) (c + hit w p)
theorem nx_range {R p : Int} (h0 : 0 ≤ p) (h1 : p < R) : 0 ≤ nx R p ∧ nx R p < R := by
  unfold nx
  split <;> omega
theorem hit_range (w : Wheel) (p : Int) : 0 ≤ hit w p ∧ hit w p ≤ 1 := by
  unfold hit
  split <;> omega
theorem Put_l {n : Nat} {w : Wheel} (h : OkW w) (hn : 100 ≤ n) {cents : Nat} (hc : cents < 1048576) : ∀ (k i m : Nat) (p c : Int), k = cents - i → i ≤ cents → k < m → 0 ≤ p → p < w.Round → 0 ≤ c → c ≤ i →
    ref01_Put_l1 n w cents m p c (i : Int) = some (put w k p c) := by
  have hr := h.r2
  intro k
  induction k with
  | zero =>
    intro i m p c hk hi hm hp hp' hc0 hc1
    obtain ⟨m, rfl⟩ : ∃ k, m = k + 1 := ⟨m - 1, by omega⟩
    have : i = cents := by omega
    subst this
    simp [ref01_Put_l1, ref01_Put_l1_b, ref01_Put_j1, put]
  | succ k ih =>
    intro i m p c hk hi hm hp hp' hc0 hc1
    obtain ⟨m, rfl⟩ : ∃ k, m = k + 1 := ⟨m - 1, by omega⟩
    have hx := hit_range w p
    have hy := nx_range hp hp'
    have key := ih (i + 1) m (nx w.Round p) (c + hit w p) (by omega) (by omega) (by omega) hy.1 hy.2 (by omega) (by omega)
    simp only [ref01_Put_l1, ref01_Put_l1_b]
    rw [if_pos (by simp; omega), w64_id (by omega) (by omega), In_eq _ _ (by have := h.nlen; omega) (by have := h.nlen; omega), bnd_some]
    have e1 : w64 ((i : Int) + 1) = ((i + 1 : Nat) : Int) := by rw [w64_id (by omega) (by omega)]; simp
    have e2 : w64 (c + 1) = c + 1 := w64_id (by omega) (by omega)
    simp only [ref01_Put_j3, ref01_Put_j2, e1, e2, w64_id (x := p + 1) (by omega) (by omega)]
    show _ = some (put w k (nx w.Round p) (c + hit w p))
    rw [← key]
    unfold nx hit
    by_cases q1 : p + 1 ∈ w.Notches
    · rw [if_pos (by simpa using q1), if_pos q1]
      by_cases q2 : p + 1 = w.Round
      · rw [if_pos (by simpa using q2), if_pos q2]
      · rw [if_neg (by simpa using q2), if_neg q2]
    · rw [if_neg (by simpa using q1), if_neg q1, Int.add_zero]
      by_cases q2 : p + 1 = w.Round
      · rw [if_pos (by simpa using q2), if_pos q2]
      · rw [if_neg (by simpa using q2), if_neg q2]
theorem Put_eq {n : Nat} {w : Wheel} (h : OkW w) (hn : 100 ≤ n) {p c : Int} (hp : 0 ≤ p) (hp' : p < w.Round) (hc : 0 ≤ c) (hc' : c < n) (hc2 : c < 1048576) : ref01_Put n w p c = some (put w c.toNat p 0) := by
  have := Put_l h hn (cents := c.toNat) (by omega) c.toNat 0 n p 0 (by omega) (by omega) (by omega) hp hp' (by omega) (by omega)
  rw [show ((c.toNat : Nat) : Int) = c by omega] at this
  exact this
theorem put_range {w : Wheel} (h : OkW w) : ∀ (k : Nat) (p c : Int), 0 ≤ p → p < w.Round → (0 ≤ (put w k p c).1 ∧ (put w k p c).1 < w.Round) ∧ c ≤ (put w k p c).2 ∧ (put w k p c).2 ≤ c + k
  | 0, p, c, h0, h1 => ⟨⟨h0, h1⟩, by simp [put], by simp [put]⟩
  | k + 1, p, c, h0, h1 => by
    have hy := nx_range h0 h1
    have hx := hit_range w p
    have := put_range h k (nx w.Round p) (c + hit w p) hy.1 hy.2
    simp only [put]
    omega
theorem put_acc (w : Wheel) : ∀ (k : Nat) (p c : Int), put w k p c = ((put w k p 0).1, c + (put w k p 0).2)
  | 0, p, c => by simp [put]
  | k + 1, p, c => by
    simp only [put]
    rw [put_acc w k (nx w.Round p) (c + hit w p), put_acc w k (nx w.Round p) (0 + hit w p)]
    simp only [Prod.mk.injEq, true_and]
    omega
theorem put_add (w : Wheel) : ∀ (j k : Nat) (p c : Int), put w (j + k) p c = put w k (put w j p c).1 (put w j p c).2
  | 0, k, p, c => by simp [put]
  | j + 1, k, p, c => by
    rw [show j + 1 + k = (j + k) + 1 by omega]
    simp only [put]
    exact put_add w j k _ _
/-! ### The notches that were reached -/
theorem ediv_succ {A R : Int} (hR : 0 < R) : (A + 1) / R = A / R + (if A % R = R - 1 then 1 else 0) := by
  have h1 := Int.mul_ediv_add_emod A R
  have h2 := Int.emod_nonneg A (show R ≠ 0 by omega)
  have h3 := Int.emod_lt_of_pos A hR
  split
  · rename_i h
    have : A + 1 = R * (A / R + 1) := by rw [Int.mul_add]; omega
    rw [this, Int.mul_ediv_cancel_left _ (by omega)]
  · rename_i h
    have : A + 1 = (A % R + 1) + R * (A / R) := by omega
    rw [this, Int.add_mul_ediv_left _ _ (by omega), Int.ediv_eq_zero_of_lt (by omega) (by omega)]
    omega
theorem emod_succ {A R : Int} (hR : 0 < R) : (A + 1) % R = nx R (A % R) := by
  have h1 := Int.mul_ediv_add_emod A R
  have h2 := Int.emod_nonneg A (show R ≠ 0 by omega)
  have h3 := Int.emod_lt_of_pos A hR
  unfold nx
  split
  · rename_i h
    have : A + 1 = R * (A / R + 1) := by rw [Int.mul_add]; omega
    rw [this, Int.mul_emod_right]
  · rename_i h
    have : A + 1 = (A % R + 1) + R * (A / R) := by omega
    rw [this, Int.add_mul_emod_self_left, Int.emod_eq_of_lt (by omega) (by omega)]
theorem emod_notch {B R m : Int} (hR : 0 < R) (h1 : 1 ≤ m) (h2 : m ≤ R) : (B - m + R) % R = R - 1 ↔ m = B % R + 1 := by
  have e1 := Int.mul_ediv_add_emod B R
  have e2 := Int.emod_nonneg B (show R ≠ 0 by omega)
  have e3 := Int.emod_lt_of_pos B hR
  by_cases h : m ≤ B % R
  · have : B - m + R = (B % R - m) + R * (B / R + 1) := by rw [Int.mul_add]; omega
    rw [this, Int.add_mul_emod_self_left, Int.emod_eq_of_lt (by omega) (by omega)]
    omega
  · have : B - m + R = (B % R - m + R) + R * (B / R) := by omega
    rw [this, Int.add_mul_emod_self_left, Int.emod_eq_of_lt (by omega) (by omega)]
    omega
/-- How often the notches are reached. -/
def reached (R e p : Int) : List Int → Int
  | [] => 0
  | m :: l => (e - m + R) / R - (p - m + R) / R + reached R e p l
def turn (w : Wheel) (p c : Int) : Int × Int := ((p + c) % w.Round, reached w.Round (p + c) p w.Notches)
theorem reached_succ {R B p : Int} (hR : 0 < R) : ∀ (l : List Int), (∀ x, x ∈ l → 1 ≤ x ∧ x ≤ R) → l.Pairwise (· < ·) → reached R (B + 1) p l = reached R B p l + (if B % R + 1 ∈ l then 1 else 0)
  | [], _, _ => by simp [reached]
  | m :: l, h, hd => by
    have hm := h m (by simp)
    obtain ⟨d1, d2⟩ := List.pairwise_cons.1 hd
    have ih := reached_succ (B := B) (p := p) hR l (fun x hx => h x (by simp [hx])) d2
    simp only [reached]
    rw [ih, show B + 1 - m + R = (B - m + R) + 1 by omega, ediv_succ hR]
    have hn := emod_notch (B := B) hR hm.1 hm.2
    by_cases q : m = B % R + 1
    · rw [if_pos (hn.2 q), if_pos (show B % R + 1 ∈ m :: l by simp [q]), if_neg (fun hx => by have := d1 _ hx; omega)]
      omega
    · rw [if_neg (fun hx => q (hn.1 hx))]
      by_cases q2 : B % R + 1 ∈ l
      · rw [if_pos q2, if_pos (by simp [q2])]
        omega
      · rw [if_neg q2, if_neg (by simp [q2]; omega)]
        omega
theorem reached_self {R p : Int} : ∀ (l : List Int), reached R p p l = 0
  | [] => rfl
  | m :: l => by simp only [reached]; rw [reached_self l]; omega
theorem put_turn {w : Wheel} (h : OkW w) {p : Int} (h0 : 0 ≤ p) (h1 : p < w.Round) : ∀ k : Nat, put w k p 0 = turn w p k
  | 0 => by
    unfold turn
    rw [show p + ((0 : Nat) : Int) = p by simp, reached_self, Int.emod_eq_of_lt h0 h1]
    rfl
  | k + 1 => by
    have hr := h.r1
    have ih := put_turn h h0 h1 k
    rw [put_add w k 1 p 0, ih]
    unfold turn
    simp only [put]
    rw [show p + ((k + 1 : Nat) : Int) = (p + k) + 1 by simp; omega, emod_succ (by omega), reached_succ (by omega) w.Notches h.nm h.nd]
    rfl
theorem turn_range {w : Wheel} (h : OkW w) {p c : Int} (h0 : 0 ≤ p) (h1 : p < w.Round) (hc : 0 ≤ c) : (0 ≤ (turn w p c).1 ∧ (turn w p c).1 < w.Round) ∧ 0 ≤ (turn w p c).2 ∧ (turn w p c).2 ≤ c := by
  have := put_range h c.toNat p 0 h0 h1
  rw [put_turn h h0 h1, show ((c.toNat : Nat) : Int) = c by omega] at this
  omega
theorem Put_turn {n : Nat} {w : Wheel} (h : OkW w) (hn : 100 ≤ n) {p c : Int} (hp : 0 ≤ p) (hp' : p < w.Round) (hc : 0 ≤ c) (hc' : c < n) (hc2 : c < 1048576) : ref01_Put n w p c = some (turn w p c) := by
  rw [Put_eq h hn hp hp' hc hc' hc2, put_turn h hp hp', show ((c.toNat : Nat) : Int) = c by omega]
theorem reached_part {R e p : Int} (hR : 0 < R) (h : p ≤ e) : ∀ l : List Int, 0 ≤ reached R e p l
  | [] => by simp [reached]
  | m :: l => by
    have := reached_part hR h l
    have h2 := Int.ediv_le_ediv hR (show p - m + R ≤ e - m + R by omega)
    simp only [reached]
    omega
theorem turn_eq {n : Nat} {w : Wheel} (h : OkW w) (hn : 100 ≤ n) {p c : Int} (hp : 0 ≤ p) (hp' : p < w.Round) (hc : 0 ≤ c) (hc2 : c < 1048576) : coins_wheel_turn n ⟨w⟩ p c = some (turn w p c) := by
  have hr := h.r1
  have hr2 := h.r2
  have hl := h.nlen
  have hfin := turn_range h hp hp' hc
  unfold turn at hfin
  simp only at hfin
  have e0 : w64 (p + c) = p + c := w64_id (by omega) (by omega)
  have key := loopI (F := fun m i s => coins_wheel_turn_l1 ⟨w⟩ p c m s i) (xs := w.Notches) (spec := fun l s => some ((p + c) % w.Round, s + reached w.Round (p + c) p l)) (I := fun l s => 0 ≤ s ∧ s + reached w.Round (p + c) p l ≤ c ∧ ∀ x, x ∈ l → 1 ≤ x ∧ x ≤ w.Round) (by omega)
    (fun m s hI => by simp [coins_wheel_turn_l1, coins_wheel_turn_l1_b, coins_wheel_turn_j1, reached, e0, rem_nn (show 0 ≤ p + c by omega) (show 0 < w.Round by omega)])
    (fun m i x l s hI hx hi _ _ hrec => by
      obtain ⟨i1, i2, i3⟩ := hI
      have hxm := i3 x (by simp)
      simp only [reached] at i2
      have hrl := reached_part (R := w.Round) (e := p + c) (p := p) (by omega) (by omega) l
      have hd1 := Int.ediv_nonneg (show 0 ≤ p + c - x + w.Round by omega) (show 0 ≤ w.Round by omega)
      have hd2 := Int.ediv_nonneg (show 0 ≤ p - x + w.Round by omega) (show 0 ≤ w.Round by omega)
      have hd3 := Int.ediv_le_self w.Round (show 0 ≤ p + c - x + w.Round by omega)
      have hd5 := Int.ediv_le_ediv (show 0 < w.Round by omega) (show p - x + w.Round ≤ p + c - x + w.Round by omega)
      simp only [coins_wheel_turn_l1, coins_wheel_turn_l1_b]
      rw [if_pos (by simpa using hi), hx, bnd_some, e0, w64_id (x := p + c - x) (by omega) (by omega), w64_id (x := p + c - x + w.Round) (by omega) (by omega), w64_id (x := p - x) (by omega) (by omega), w64_id (x := p - x + w.Round) (by omega) (by omega),
        quo_nn (by omega) (by omega) (by omega), quo_nn (by omega) (by omega) (by omega), bnd_some, bnd_some, w64_id (x := _ - _) (by omega) (by omega), w64_id (x := s + _) (by omega) (by omega),
        hrec _ ⟨by omega, by omega, fun y hy => i3 y (by simp [hy])⟩]
      simp only [reached]
      congr 2
      omega)
    w.Notches 0 n 0 (by omega) rfl (by omega) ⟨by omega, by omega, h.nm⟩
  have key : coins_wheel_turn_l1 ⟨w⟩ p c n 0 0 = _ := key
  unfold coins_wheel_turn
  rw [key]
  unfold turn
  rw [Int.zero_add]

/-- A stand of a wheel. -/
structure OkS (w : Wheel) (s : Stand) (b : Int) : Prop where
  p0 : 0 ≤ s.Place
  p1 : s.Place < w.Round
  c0 : 0 ≤ s.Credit
  c1 : s.Credit ≤ b
def okAct (w : Wheel) (a : Int) : Bool := inR a (-1) (w.Coins.length - 1)
def coin (w : Wheel) (a : Int) : Int := w.Coins.getD a.toNat 0
/-- The stand after an act, and whether a selection was made. -/
def actS (w : Wheel) (s : Stand) (a : Int) : Stand × Bool :=
  if 0 ≤ a then (⟨(turn w s.Place (coin w a)).1, s.Credit + (turn w s.Place (coin w a)).2⟩, false) else if s.Credit = 0 then (s, false) else (⟨0, s.Credit - 1⟩, true)
theorem coin_idx {w : Wheel} {a : Int} (h0 : 0 ≤ a) (h1 : a ≤ w.Coins.length - 1) : idx w.Coins a = some (coin w a) := by
  obtain ⟨k, rfl⟩ : ∃ k : Nat, a = k := ⟨a.toNat, by omega⟩
  have hk : k < w.Coins.length := by omega
  rw [idx_nat hk]
  simp [coin, hk]
theorem coin_range {w : Wheel} (h : OkW w) {a : Int} (h0 : 0 ≤ a) (h1 : a ≤ w.Coins.length - 1) : 1 ≤ coin w a ∧ coin w a ≤ 100 := by
  obtain ⟨k, rfl⟩ : ∃ k : Nat, a = k := ⟨a.toNat, by omega⟩
  have hk : k < w.Coins.length := by omega
  have : coin w k = w.Coins[k] := by simp [coin, hk]
  rw [this]
  exact h.cm _ (List.getElem_mem hk)
theorem act_eq {n : Nat} {w : Wheel} (h : OkW w) (hn : 200 ≤ n) {s : Stand} {b a : Int} (hs : OkS w s b) (hb : b < 1099511627776) (ha : okAct w a = true) : coins_wheel_act n ⟨w⟩ s a = some (actS w s a).1 := by
  have ha := inR_iff.1 ha
  have := hs.c0
  have := hs.c1
  unfold coins_wheel_act actS
  by_cases h0 : 0 ≤ a
  · have hc := coin_range h h0 ha.2
    have ht := turn_range h hs.p0 hs.p1 (show 0 ≤ coin w a by omega)
    rw [if_pos (by simp; omega), if_pos h0, coin_idx h0 ha.2, bnd_some, turn_eq h (by omega) hs.p0 hs.p1 (by omega) (by omega), bnd_some, w64_id (by omega) (by omega)]
  · rw [if_neg (by simp; omega), if_neg h0]
    by_cases hc : s.Credit = 0
    · rw [if_neg (by simp; omega), if_pos hc]
    · rw [if_pos (by simp; omega), if_neg hc, w64_id (by omega) (by omega)]

/-! ### slices.ContainsFunc -/
def zw : Wheel_ := ⟨⟨0, [], []⟩⟩
theorem open_eq {n : Nat} {w : Wheel} (hl : okLen n w) (aF : Wheel_ → Unit → Option (Bool × Unit)) (b : Bool) (ha : valid w = true → aF ⟨w⟩ () = some (b, ())) :
    coins_open n aF w () = some (cond (valid w) (cond b (((⟨w⟩ : Wheel_), 0), ()) ((zw, 1), ())) ((zw, 10), ())) := by
  unfold coins_open
  rw [Check_eq hl, bnd_some]
  cases hv : valid w with
  | false => rfl
  | true =>
    rw [ha hv]
    cases b <;> rfl
/-! ### Run -/
/-! ### Plays -/
theorem SameInts_eq {n : Nat} (a b : List Int) (hs : a.length < 1048576) (hn : a.length < n) : ref01_SameInts n a b = some (decide (a = b)) := by
  unfold ref01_SameInts
  by_cases h : a.length = b.length
  · rw [if_neg (by simp [h])]
    have := loopL0 (F := fun m i (_ : Unit) => ref01_SameInts_l1 a b m i) (xs := a.zip b) (spec := fun l _ => some (decide (∀ q, q ∈ l → q.1 = q.2))) (n := n) (by simp [← h]; omega) (by simp [← h]; omega) () (fun m s => by simp [ref01_SameInts_l1, ref01_SameInts_l1_b, ref01_SameInts_j1, ← h]) (fun m i x l s hx hi hi' hd hrec => by
      have hi1 : i < a.length := by simp [← h] at hi; exact hi
      have hi2 : i < b.length := by omega
      have hx' : x = (a[i], b[i]) := by
        rw [idx_nat (by simp; omega)] at hx
        injection hx with hx
        rw [← hx]
        simp
      simp only [ref01_SameInts_l1, ref01_SameInts_l1_b]
      rw [if_pos (by simp; omega), idx_nat hi1, idx_nat hi2, bnd_some, bnd_some]
      subst hx'
      by_cases hb : a[i] = b[i]
      · rw [if_neg (by simp [hb]), hrec ()]
        simp [hb]
      · rw [if_pos (by simp [hb])]
        simp [hb])
    rw [show ref01_SameInts_l1 a b n 0 = _ from this]
    congr 1
    apply decide_eq_decide.2
    constructor
    · intro hq
      apply List.ext_getElem h
      intro i h1 h2
      have := hq (a[i], b[i]) (by
        have h3 : i < (a.zip b).length := by simp; omega
        have : (a.zip b)[i] = (a[i], b[i]) := by simp
        rw [← this]
        exact List.getElem_mem h3)
      exact this
    · rintro rfl q hq
      obtain ⟨i, hi, rfl⟩ := List.getElem_of_mem hq
      simp
  · rw [if_pos (by simp; omega)]
    have : a ≠ b := fun e => h (by rw [e])
    simp [this]
theorem SameInts_self {n : Nat} (a : List Int) (hs : a.length < 1048576) (hn : a.length < n) : ref01_SameInts n a a = some true := by rw [SameInts_eq a a hs hn]; simp
theorem same_self {n : Nat} {w : Wheel} (h : okLen n w) : law01_same n w w = some true := by
  unfold law01_same law01_same_j1
  rw [SameInts_self _ h.1 h.2.2.1, SameInts_self _ h.2.1 h.2.2.2]
  simp
theorem Copy_eq {n : Nat} {w : Wheel} (h : okLen n w) : ref01_Copy w = some w := by
  unfold ref01_Copy
  rw [app_ok (by simp; exact Nat.le_of_lt h.1), app_ok (by simp; exact Nat.le_of_lt h.2.1)]
  rfl
def farW (w : Wheel) : Bool := decide ((w.Notches.length : Int) > 40) || decide ((w.Coins.length : Int) > 40)
theorem far_eq (w : Wheel) : law01_far w = some (farW w) := by
  unfold law01_far law01_far_j1 farW
  by_cases h : (w.Notches.length : Int) > 40
  · rw [if_pos (by simpa using h)]; simp [h]
  · rw [if_neg (by simpa using h)]; simp [h]
theorem farW_len {w : Wheel} (h : farW w = false) {n : Nat} (hn : 100 ≤ n) : okLen n w := by
  simp only [farW, Bool.or_eq_false_iff, decide_eq_false_iff_not] at h
  exact ⟨by omega, by omega, by omega, by omega⟩

theorem turn_add {w : Wheel} (h : OkW w) {p c d : Int} (h0 : 0 ≤ p) (h1 : p < w.Round) (hc : 0 ≤ c) (hd : 0 ≤ d) :
    turn w p (c + d) = ((turn w (turn w p c).1 d).1, (turn w p c).2 + (turn w (turn w p c).1 d).2) := by
  obtain ⟨j, rfl⟩ : ∃ j : Nat, c = j := ⟨c.toNat, by omega⟩
  obtain ⟨k, rfl⟩ : ∃ k : Nat, d = k := ⟨d.toNat, by omega⟩
  have hr := turn_range h h0 h1 (show (0 : Int) ≤ (j : Int) by omega)
  rw [show ((j : Int) + (k : Int)) = ((j + k : Nat) : Int) by simp, ← put_turn h h0 h1 (j + k), put_add, put_acc, put_turn h h0 h1 j, put_turn h hr.1.1 hr.1.2 k]
/-! ### The whole round -/
theorem reached_round {R q p : Int} (hR : 0 < R) : ∀ l : List Int, reached R (p + R * q) p l = q * l.length
  | [] => by simp [reached]
  | m :: l => by
    simp only [reached]
    rw [reached_round hR l, show p + R * q - m + R = (p - m + R) + R * q by omega, Int.add_mul_ediv_left _ _ (by omega), List.length_cons, Int.natCast_add, Int.mul_add]
    simp
    omega

/-! ### The reference -/

/-! ### Maps -/
section
variable {κ : Type} [DecidableEq κ]
theorem mhas_iff : ∀ {M : List (κ × Int)} {k : κ}, mhas M k = true ↔ k ∈ M.map (·.1)
  | [], k => by simp [mhas]
  | p :: M, k => by
    simp only [mhas, List.map_cons, List.mem_cons]
    by_cases h : p.1 = k
    · simp [h]
    · rw [if_neg h, mhas_iff]
      exact ⟨.inr, fun e => e.resolve_left (Ne.symm h)⟩
theorem mget_mem : ∀ {M : List (κ × Int)} {k : κ}, mhas M k = true → (k, mget M k) ∈ M
  | [], k, h => by simp [mhas] at h
  | p :: M, k, h => by
    by_cases e : p.1 = k
    · simp only [mget, if_pos e]
      rw [← e]
      exact List.mem_cons_self
    · simp only [mhas, if_neg e] at h
      simp only [mget, if_neg e]
      exact List.mem_cons_of_mem _ (mget_mem h)
theorem mget_no : ∀ {M : List (κ × Int)} {k : κ}, mhas M k = false → mget M k = 0
  | [], k, h => rfl
  | p :: M, k, h => by
    by_cases e : p.1 = k
    · simp [mhas, e] at h
    · simp only [mhas, if_neg e] at h
      simp only [mget, if_neg e]
      exact mget_no h
theorem mset_mem : ∀ {M : List (κ × Int)} {k : κ} {v : Int} {p : κ × Int}, p ∈ mset M k v → p = (k, v) ∨ p ∈ M
  | [], k, v, p, h => by simp [mset] at h; exact .inl h
  | q :: M, k, v, p, h => by
    simp only [mset] at h
    split at h
    · rcases List.mem_cons.1 h with h | h
      · exact .inl h
      · exact .inr (List.mem_cons_of_mem _ h)
    · rcases List.mem_cons.1 h with h | h
      · exact .inr (h ▸ List.mem_cons_self)
      · rcases mset_mem h with h | h
        · exact .inl h
        · exact .inr (List.mem_cons_of_mem _ h)
theorem mset_keys : ∀ {M : List (κ × Int)} {k : κ} {v : Int}, (mset M k v).map (·.1) = if mhas M k = true then M.map (·.1) else M.map (·.1) ++ [k]
  | [], k, v => by simp [mset, mhas]
  | q :: M, k, v => by
    by_cases e : q.1 = k
    · simp [mset, mhas, e]
    · simp only [mset, mhas, if_neg e, List.map_cons]
      rw [mset_keys]
      cases mhas M k <;> simp
theorem mset_nodup {M : List (κ × Int)} {k : κ} {v : Int} (h : (M.map (·.1)).Nodup) : ((mset M k v).map (·.1)).Nodup := by
  rw [mset_keys]
  cases e : mhas M k with
  | true => simpa using h
  | false =>
    have : ¬ k ∈ M.map (·.1) := fun hk => by rw [mhas_iff.2 hk] at e; cases e
    simp only [Bool.false_eq_true, if_false]
    rw [List.nodup_append]
    refine ⟨h, by simp, fun a ha b hb => ?_⟩
    simp only [List.mem_singleton] at hb
    subst hb
    exact fun e => this (e ▸ ha)
theorem mget_set : ∀ {M : List (κ × Int)} {k k' : κ} {v : Int}, mget (mset M k v) k' = if k = k' then v else mget M k'
  | [], k, k', v => by simp [mset, mget]
  | q :: M, k, k', v => by
    by_cases e : q.1 = k
    · simp only [mset, if_pos e, mget, e]
      by_cases e2 : k = k'
      · simp [mget, e2]
      · simp [mget, e2]
    · simp only [mset, if_neg e, mget]
      by_cases e2 : q.1 = k'
      · rw [if_pos e2, if_neg (fun e3 => e (e2.trans e3.symm)), if_pos e2]
      · rw [if_neg e2, if_neg e2, mget_set]
theorem mhas_set {M : List (κ × Int)} {k k' : κ} {v : Int} : mhas (mset M k v) k' = true ↔ k' = k ∨ mhas M k' = true := by
  rw [mhas_iff, mhas_iff, mset_keys]
  cases e : mhas M k with
  | true =>
    simp only [if_true]
    exact ⟨.inr, fun h => h.elim (fun q => q ▸ mhas_iff.1 e) id⟩
  | false => simp [or_comm]
end

/-! ### The best of some numbers -/
def stepB (b : Bool) (s : Bool × Int) (n : Int) : Bool × Int := if s.1 = true ∨ cond b (decide (n > s.2)) (decide (n < s.2)) = true then (false, n) else s
def pick (b : Bool) (vs : List Int) : Int := (vs.foldl (stepB b) (true, 0)).2
def leB (b : Bool) (x y : Int) : Prop := cond b (x ≤ y) (y ≤ x)
theorem leB.refl (b : Bool) (x : Int) : leB b x x := by cases b <;> exact Int.le_refl x
theorem leB.trans {b : Bool} {x y z : Int} (h : leB b x y) (h' : leB b y z) : leB b x z := by
  cases b
  · exact Int.le_trans h' h
  · exact Int.le_trans h h'
theorem leB.add {b : Bool} {x y : Int} (h : leB b x y) (a : Int) : leB b (a + x) (a + y) := by
  cases b
  · exact Int.add_le_add_left h a
  · exact Int.add_le_add_left h a
/-! ### Purses -/
def total : List Int → Int
  | [] => 0
  | x :: l => x + total l
def lessP (l : List Int) (k : Nat) : List Int := l.set k (l.getD k 0 - 1)
theorem total_set : ∀ {l : List Int} {k : Nat} {v : Int}, k < l.length → total (l.set k v) = total l - l.getD k 0 + v
  | [], k, v, h => by simp at h
  | x :: l, 0, v, h => by simp [total]; omega
  | x :: l, k + 1, v, h => by
    have := total_set (l := l) (k := k) (v := v) (by simpa using h)
    simp only [List.set_cons_succ, total, List.getD_cons_succ]
    omega
theorem total_less {l : List Int} {k : Nat} (h : k < l.length) : total (lessP l k) = total l - 1 := by
  unfold lessP
  rw [total_set h]
  omega
theorem total_nn : ∀ {l : List Int}, (∀ x, x ∈ l → 0 ≤ x) → 0 ≤ total l
  | [], _ => Int.le_refl _
  | x :: l, h => by
    have := h x (by simp)
    have := total_nn (l := l) (fun y hy => h y (by simp [hy]))
    simp only [total]
    omega
theorem getD_le : ∀ {l : List Int}, (∀ x, x ∈ l → 0 ≤ x) → ∀ k, 0 ≤ l.getD k 0 ∧ l.getD k 0 ≤ total l
  | [], _, k => by simp [total]
  | x :: l, h, 0 => by
    have := h x (by simp)
    have := total_nn (l := l) (fun y hy => h y (by simp [hy]))
    simp only [List.getD_cons_zero, total]
    omega
  | x :: l, h, k + 1 => by
    have := h x (by simp)
    have := getD_le (l := l) (fun y hy => h y (by simp [hy])) k
    simp only [List.getD_cons_succ, total]
    omega
/-- A purse of a wheel. -/
structure OkP (w : Wheel) (l : List Int) : Prop where
  len : l.length = w.Coins.length
  nn : ∀ x, x ∈ l → 0 ≤ x
  tot : total l ≤ 1000
def bagOf (l : List Int) : Bag_ := ⟨l.getD 0 0, l.getD 1 0, l.getD 2 0, l.getD 3 0⟩
theorem bag_inj {l l' : List Int} (h : bagOf l = bagOf l') (hl : l.length = l'.length) (h4 : l.length ≤ 4) : l = l' := by
  simp only [bagOf, Bag_.mk.injEq] at h
  obtain ⟨h0, h1, h2, h3⟩ := h
  apply List.ext_getElem hl
  intro i hi hi'
  have e1 : l[i] = l.getD i 0 := by simp [hi]
  have e2 : l'[i] = l'.getD i 0 := by simp [hi']
  rw [e1, e2]
  match i, (show i < 4 by omega) with
  | 0, _ => exact h0
  | 1, _ => exact h1
  | 2, _ => exact h2
  | 3, _ => exact h3

/-! ### What can come next -/
structure Opn where
  acts : List Int
  plays : Int
  p : Int
  c : Int
  k : Nat
/-- A coin. -/
def optC (w : Wheel) (p c : Int) (k : Nat) : Opn := ⟨[(k : Int)], (turn w p (coin w k)).2, (turn w p (coin w k)).1, c + (turn w p (coin w k)).2, k⟩
/-- A selection, and a coin. -/
def optS (w : Wheel) (c : Int) (k : Nat) : Opn := ⟨[-1, (k : Int)], (turn w 0 (coin w k)).2, (turn w 0 (coin w k)).1, c - 1 + (turn w 0 (coin w k)).2, k⟩
def optK (w : Wheel) (p c : Int) (k : Nat) : List Opn := optC w p c k :: (if c = 0 ∨ p = 0 then [] else [optS w c k])
def opts (w : Wheel) (p c : Int) (l : List Int) : Nat → Nat → List Opn
  | 0, _ => []
  | d + 1, k => (if l.getD k 0 = 0 then [] else optK w p c k) ++ opts w p c l d (k + 1)
theorem opts_mem {w : Wheel} {p c : Int} {l : List Int} {o : Opn} : ∀ {d k : Nat}, o ∈ opts w p c l d k ↔ ∃ j, k ≤ j ∧ j < k + d ∧ l.getD j 0 ≠ 0 ∧ o ∈ optK w p c j
  | 0, k => by
    simp only [opts, List.not_mem_nil, false_iff]
    rintro ⟨j, h1, h2, _⟩
    omega
  | d + 1, k => by
    simp only [opts, List.mem_append]
    rw [opts_mem]
    constructor
    · rintro (h | ⟨j, h1, h2, h3, h4⟩)
      · split at h
        · simp at h
        · rename_i h0
          exact ⟨k, Nat.le_refl k, by omega, h0, h⟩
      · exact ⟨j, by omega, by omega, h3, h4⟩
    · rintro ⟨j, h1, h2, h3, h4⟩
      by_cases e : j = k
      · subst e
        exact .inl (by rw [if_neg h3]; exact h4)
      · exact .inr ⟨j, by omega, by omega, h3, h4⟩
theorem optK_mem {w : Wheel} {p c : Int} {k : Nat} {o : Opn} : o ∈ optK w p c k ↔ o = optC w p c k ∨ (c ≠ 0 ∧ p ≠ 0 ∧ o = optS w c k) := by
  unfold optK
  rw [List.mem_cons]
  by_cases h : c = 0 ∨ p = 0
  · rw [if_pos h]
    simp only [List.not_mem_nil, or_false]
    exact ⟨.inl, fun q => q.elim id fun q => (h.elim q.1 q.2.1).elim⟩
  · rw [if_neg h]
    simp only [List.mem_singleton]
    exact or_congr_right ⟨fun q => ⟨fun e => h (.inl e), fun e => h (.inr e), q⟩, fun q => q.2.2⟩
/-- The plays of the best way to put a purse of so many coins in. -/
def Q (b : Bool) (w : Wheel) : Nat → Int → Int → List Int → Int
  | 0, _, _, _ => 0
  | T + 1, p, c, l => pick b ((opts w p c l l.length 0).map fun o => o.plays + Q b w T o.p o.c (lessP l o.k))
/-- What is known of what comes next. -/
structure OkO (w : Wheel) (c : Int) (l : List Int) (o : Opn) : Prop where
  k : o.k < w.Coins.length
  nz : l.getD o.k 0 ≠ 0
  p0 : 0 ≤ o.p
  p1 : o.p < w.Round
  c0 : 0 ≤ o.c
  c1 : o.c ≤ c + 100
  y0 : 0 ≤ o.plays
  y1 : o.plays ≤ 100
theorem OkP.out {w : Wheel} {l : List Int} (h : OkP w l) : ∀ j, w.Coins.length ≤ j → l.getD j 0 = 0 := fun j hj => by
  rw [← h.len] at hj
  simp [hj]
/-! ### The code: next -/
def spot (l : List Int) (p c : Int) : Spot_ := ⟨bagOf l, p, c⟩
/-! ### The code: buys -/
/-- What is kept is right. -/
def InvM (b : Bool) (w : Wheel) (M : List (Spot_ × Int)) : Prop :=
  (M.map (·.1)).Nodup ∧ ∀ e, e ∈ M → ∃ l p c, e.1 = spot l p c ∧ OkP w l ∧ (0 ≤ p ∧ p < w.Round) ∧ (0 ≤ c ∧ c < 1099511627776) ∧ e.2 = Q b w (total l).toNat p c l
theorem InvM.nil (b : Bool) (w : Wheel) : InvM b w [] := ⟨by simp, fun e h => by simp at h⟩
theorem okI_of {x : Int} (h1 : -9223372036854775808 ≤ x) (h2 : x < 9223372036854775808) : okI x = true := by
  simp only [okI, Lit.wf, IntKind.min, IntKind.max, IntKind.signed, IntKind.bits]
  simp
  omega
theorem okSpot_of {w : Wheel} (h : OkW w) {l : List Int} (hl : OkP w l) {p c : Int} (hp : 0 ≤ p) (hp' : p < w.Round) (hc : 0 ≤ c) (hc2 : c < 1099511627776) : okSpot_ (spot l p c) = true := by
  have hr := h.r2
  have ht := hl.tot
  have g := getD_le hl.nn
  have g0 := g 0
  have g1 := g 1
  have g2 := g 2
  have g3 := g 3
  simp only [okSpot_, spot, bagOf, List.all_cons, List.all_nil, Bool.and_true, Bool.and_eq_true]
  exact ⟨okI_of (by omega) (by omega), okI_of (by omega) (by omega), okI_of (by omega) (by omega), okI_of (by omega) (by omega), okI_of (by omega) (by omega), okI_of (by omega) (by omega)⟩
theorem InvM.mok {b : Bool} {w : Wheel} {M : List (Spot_ × Int)} (hM : InvM b w M) (h : OkW w) {l : List Int} (hl : OkP w l) {p c : Int} (hp : 0 ≤ p) (hp' : p < w.Round) (hc : 0 ≤ c) (hc2 : c < 1099511627776) : mok okSpot_ M (spot l p c) = true := by
  unfold Go.AM.mok
  rw [okSpot_of h hl hp hp' hc hc2, show M.all (fun p => okSpot_ p.1) = true from List.all_eq_true.2 fun e he => ?_, show decide ((M.map (·.1)).Nodup) = true by simpa using hM.1]
  · rfl
  · obtain ⟨l', p', c', e1, e2, e3, e4, _⟩ := hM.2 e he
    rw [e1]
    exact okSpot_of h e2 e3.1 e3.2 e4.1 e4.2
theorem InvM.get {b : Bool} {w : Wheel} {M : List (Spot_ × Int)} (hM : InvM b w M) (h : OkW w) {l : List Int} (hl : OkP w l) {p c : Int} (hk : mhas M (spot l p c) = true) : mget M (spot l p c) = Q b w (total l).toNat p c l := by
  obtain ⟨l', p', c', e1, e2, e3, e4, e5⟩ := hM.2 _ (mget_mem hk)
  simp only [spot, Spot_.mk.injEq] at e1
  obtain ⟨q1, q2, q3⟩ := e1
  have e : l = l' := bag_inj q1 (by rw [hl.len, e2.len]) (by rw [hl.len]; exact h.clen)
  subst e q2 q3
  exact e5
theorem InvM.set {b : Bool} {w : Wheel} {M : List (Spot_ × Int)} (hM : InvM b w M) {l : List Int} (hl : OkP w l) {p c : Int} (hp : 0 ≤ p) (hp' : p < w.Round) (hc : 0 ≤ c) (hc2 : c < 1099511627776) : InvM b w (mset M (spot l p c) (Q b w (total l).toNat p c l)) := by
  refine ⟨mset_nodup hM.1, fun e he => ?_⟩
  rcases mset_mem he with rfl | he
  · exact ⟨l, p, c, rfl, hl, ⟨hp, hp'⟩, ⟨hc, hc2⟩, rfl⟩
  · exact hM.2 e he

/-! ### The reference: all -/
/-! ### Purses of a wheel -/

/-! ### Ways -/
/-- The plays that the coins of some acts give. -/
def buysL (w : Wheel) : Stand → List Int → Int
  | _, [] => 0
  | s, a :: l => (if 0 ≤ a then (turn w s.Place (coin w a)).2 else 0) + buysL w (actS w s a).1 l
def cnt (k : Int) : List Int → Int
  | [] => 0
  | a :: l => (if a = k then 1 else 0) + cnt k l
/-- A way to put a purse in. -/
structure Way (w : Wheel) (s : Stand) (l acts : List Int) (q : Int) : Prop where
  ok : acts.all (okAct w) = true
  len : (acts.length : Int) ≤ 2 * total l
  bag : ∀ k : Nat, k < w.Coins.length → cnt k acts = l.getD k 0
  buys : buysL w s acts = q
theorem lessP_getD {l : List Int} {k j : Nat} (hk : k < l.length) : (lessP l k).getD j 0 = l.getD j 0 - (if k = j then 1 else 0) := by
  unfold lessP
  by_cases e : k = j
  · subst e
    rw [if_pos rfl, List.getD_eq_getElem?_getD, List.getElem?_set_self hk]
    rfl
  · rw [if_neg e, List.getD_eq_getElem?_getD, List.getElem?_set_ne e, ← List.getD_eq_getElem?_getD]
    omega
theorem okAct_k {w : Wheel} {k : Nat} (h : k < w.Coins.length) : okAct w k = true := inR_iff.2 ⟨by omega, by omega⟩
theorem okAct_s {w : Wheel} : okAct w (-1) = true := inR_iff.2 ⟨by omega, by omega⟩
theorem actS_k (w : Wheel) (p c : Int) (k : Nat) : actS w ⟨p, c⟩ (k : Int) = (⟨(optC w p c k).p, (optC w p c k).c⟩, false) := by
  unfold actS
  rw [if_pos (by omega)]
  rfl
theorem actS_s (w : Wheel) (p c : Int) (hc : c ≠ 0) : actS w ⟨p, c⟩ (-1) = (⟨0, c - 1⟩, true) := by
  unfold actS
  rw [if_neg (by omega), if_neg hc]
/-- A step, and a way behind it. -/
theorem Way.step {w : Wheel} {p c : Int} {l acts : List Int} {q : Int} {o : Opn} (hl : OkP w l) (hc : 0 ≤ c) (ho : o ∈ opts w p c l l.length 0) (h : Way w ⟨o.p, o.c⟩ (lessP l o.k) acts q) : Way w ⟨p, c⟩ l (o.acts ++ acts) (o.plays + q) := by
  obtain ⟨j, _, h2, h3, h4⟩ := opts_mem.1 ho
  have hj : j < l.length := by omega
  have hj' : j < w.Coins.length := by have := hl.len; omega
  rcases optK_mem.1 h4 with rfl | ⟨h5, h6, rfl⟩
  · refine ⟨?_, ?_, fun k hk => ?_, ?_⟩
    · show List.all ([(j : Int)] ++ acts) (okAct w) = true
      rw [List.singleton_append, List.all_cons, okAct_k hj', h.ok]
      rfl
    · have := h.len
      have e := total_less hj
      show ((([(j : Int)] ++ acts).length : Nat) : Int) ≤ _
      rw [show (optC w p c j).k = j from rfl] at this
      simp
      omega
    · show cnt k ((j : Int) :: acts) = _
      simp only [cnt]
      rw [h.bag k hk, show (optC w p c j).k = j from rfl, lessP_getD hj]
      by_cases e : j = k
      · rw [if_pos (by omega), if_pos e]; omega
      · rw [if_neg (by omega), if_neg e]; omega
    · show buysL w ⟨p, c⟩ ((j : Int) :: acts) = _
      simp only [buysL]
      rw [if_pos (by omega), actS_k, h.buys]
      rfl
  · refine ⟨?_, ?_, fun k hk => ?_, ?_⟩
    · show List.all ([-1, (j : Int)] ++ acts) (okAct w) = true
      rw [List.cons_append, List.singleton_append, List.all_cons, List.all_cons, okAct_k hj', okAct_s, h.ok]
      rfl
    · have := h.len
      have e := total_less hj
      show ((([-1, (j : Int)] ++ acts).length : Nat) : Int) ≤ _
      rw [show (optS w c j).k = j from rfl] at this
      simp
      omega
    · show cnt k (-1 :: (j : Int) :: acts) = _
      simp only [cnt]
      rw [h.bag k hk, show (optS w c j).k = j from rfl, lessP_getD hj, if_neg (by omega)]
      by_cases e : j = k
      · rw [if_pos (by omega), if_pos e]; omega
      · rw [if_neg (by omega), if_neg e]; omega
    · show buysL w ⟨p, c⟩ (-1 :: (j : Int) :: acts) = _
      simp only [buysL]
      rw [if_neg (by omega), actS_s w p c h5]
      simp only []
      rw [if_pos (by omega), actS_k]
      rw [show (⟨(optC w 0 (c - 1) j).p, (optC w 0 (c - 1) j).c⟩ : Stand) = ⟨(optS w c j).p, (optS w c j).c⟩ from rfl, h.buys]
      show 0 + ((turn w 0 (coin w j)).2 + q) = (turn w 0 (coin w j)).2 + q
      omega
/-! ### The code: Order -/
/-! ### The reference: Bag, Buys; isWay -/


/-! ### What a purse is worth -/
/-! ### Parts of a purse -/
def down : Nat → List Int
  | 0 => [0]
  | n + 1 => ((n + 1 : Nat) : Int) :: down n
/-! ### Wasted -/
def cutP (w : Wheel) (t : List Int) : List Int := t.take w.Coins.length
structure OkT (w : Wheel) (t : List Int) : Prop where
  len : t.length = 4
  rng : ∀ k, 0 ≤ t.getD k 0 ∧ t.getD k 0 ≤ 1000
  out : ∀ k, w.Coins.length ≤ k → t.getD k 0 = 0
  tot : total (cutP w t) ≤ 1000
theorem cutP_getD {w : Wheel} {t : List Int} (h : OkT w t) (k : Nat) : (cutP w t).getD k 0 = t.getD k 0 := by
  unfold cutP
  rw [List.getD_eq_getElem?_getD, List.getElem?_take]
  split
  · rfl
  · rw [h.out k (by omega)]
    rfl
theorem OkT.bag {w : Wheel} {t : List Int} (h : OkT w t) : bagOf t = bagOf (cutP w t) := by
  simp only [bagOf, cutP_getD h]

/-! ### Sums of coins, and the plays from the beginning -/
inductive Rep (w : Wheel) : Int → Prop
  | zero : Rep w 0
  | add (s : Int) (k : Nat) : Rep w s → k < w.Coins.length → Rep w (s + coin w k)
def cN (w : Wheel) (s : Int) : Int := (turn w 0 s).2
theorem kcoin {w : Wheel} (h : OkW w) {k : Nat} (hk : k < w.Coins.length) : 1 ≤ coin w k ∧ coin w k ≤ 100 := coin_range h (a := (k : Int)) (by omega) (by omega)
theorem Rep.nn {w : Wheel} (h : OkW w) {s : Int} (hs : Rep w s) : 0 ≤ s := by
  induction hs with
  | zero => omega
  | add s k _ hk ih => have := kcoin h hk; omega
theorem cN_nn {w : Wheel} (h : OkW w) {s : Int} (hs : 0 ≤ s) : 0 ≤ cN w s ∧ cN w s ≤ s := by
  have := h.r1
  have := turn_range h (p := 0) (by omega) (by omega) hs
  exact this.2
theorem cN_zero {w : Wheel} (h : OkW w) : cN w 0 = 0 := by have := cN_nn h (s := 0) (by omega); omega
theorem turn_zero {w : Wheel} (h : OkW w) : turn w 0 0 = (0, 0) := by
  have := h.r1
  have e := put_turn h (p := 0) (by omega) (by omega) 0
  rw [show turn w 0 0 = turn w 0 ((0 : Nat) : Int) from rfl, ← e]
  rfl
theorem place_range {w : Wheel} (h : OkW w) {s : Int} (hs : 0 ≤ s) : 0 ≤ (turn w 0 s).1 ∧ (turn w 0 s).1 < w.Round := by
  have := h.r1
  exact (turn_range h (p := 0) (by omega) (by omega) hs).1
theorem cN_add {w : Wheel} (h : OkW w) {s c : Int} (hs : 0 ≤ s) (hc : 0 ≤ c) : cN w (s + c) = cN w s + (turn w (turn w 0 s).1 c).2 ∧ (turn w 0 (s + c)).1 = (turn w (turn w 0 s).1 c).1 := by
  have := h.r1
  have := turn_add h (p := 0) (c := s) (d := c) (by omega) (by omega) hs hc
  unfold cN
  rw [this]
  exact ⟨rfl, rfl⟩
theorem cN_mono {w : Wheel} (h : OkW w) {s t : Int} (hs : 0 ≤ s) (ht : s ≤ t) : cN w s ≤ cN w t := by
  have hp := place_range h hs
  have := (cN_add h hs (show 0 ≤ t - s by omega)).1
  have := turn_range h hp.1 hp.2 (show 0 ≤ t - s by omega)
  rw [show s + (t - s) = t by omega] at *
  omega
/-- The fewest cents that buy so many plays without a selection between. -/
structure IsOne (w : Wheel) (k s : Int) : Prop where
  rep : Rep w s
  cnt : k ≤ cN w s
  least : ∀ s', Rep w s' → k ≤ cN w s' → s ≤ s'
theorem IsOne.mono {w : Wheel} {k k' s s' : Int} (h : IsOne w k s) (h' : IsOne w k' s') (hk : k ≤ k') : s ≤ s' := h.least _ h'.rep (by have := h'.cnt; omega)
theorem IsOne.pos {w : Wheel} (hw : OkW w) {k s : Int} (h : IsOne w k s) (hk : 1 ≤ k) : 1 ≤ s := by
  have := h.rep.nn hw
  have := h.cnt
  have := cN_nn hw (s := s) (by omega)
  omega
theorem IsOne.zero {w : Wheel} (hw : OkW w) {s : Int} (h : IsOne w 0 s) : s = 0 := by
  have := h.least 0 .zero (by rw [cN_zero hw]; omega)
  have := h.rep.nn hw
  omega
theorem Rep.mul {w : Wheel} {k : Nat} (hk : k < w.Coins.length) : ∀ m : Nat, Rep w ((m : Int) * coin w k)
  | 0 => by simp; exact .zero
  | m + 1 => by
    have := Rep.add _ k (Rep.mul hk m) hk
    rw [show ((m + 1 : Nat) : Int) * coin w k = (m : Int) * coin w k + coin w k by rw [Int.natCast_add, Int.add_mul]; simp]
    exact this
theorem cN_rounds {w : Wheel} (h : OkW w) : ∀ m : Nat, cN w ((m : Int) * w.Round) = m * w.Notches.length ∧ (turn w 0 ((m : Int) * w.Round)).1 = 0
  | 0 => by
    have := turn_zero h
    simp only [cN, Int.natCast_zero, Int.zero_mul, this]
    exact ⟨trivial, trivial⟩
  | m + 1 => by
    have hr := h.r1
    obtain ⟨h1, h2⟩ := cN_rounds h m
    have hs : 0 ≤ (m : Int) * w.Round := Int.mul_nonneg (by omega) (by omega)
    obtain ⟨a, b⟩ := cN_add h hs (show 0 ≤ w.Round by omega)
    rw [show ((m + 1 : Nat) : Int) * w.Round = (m : Int) * w.Round + w.Round by rw [Int.natCast_add, Int.add_mul]; simp]
    rw [a, b, h1, h2]
    have e : turn w 0 w.Round = (0, (w.Notches.length : Int)) := by
      unfold turn
      have := reached_round (show 0 < w.Round by omega) w.Notches (p := 0) (q := 1)
      rw [Int.mul_one, Int.one_mul] at this
      rw [this, Int.zero_add, Int.emod_self]
    rw [e]
    refine ⟨?_, rfl⟩
    rw [Int.natCast_add, Int.add_mul]
    simp
theorem one_some {w : Wheel} (h : OkW w) (hc : w.Coins.length ≠ 0) (hn : w.Notches.length ≠ 0) {k : Nat} (hk : k ≤ 20) : ∃ s, Rep w s ∧ (k : Int) ≤ cN w s ∧ s ≤ 4099 := by
  have hr1 := h.r1
  have hr2 := h.r2
  have hco := kcoin h (k := 0) (by omega)
  generalize hcc : coin w (0 : Nat) = c at hco
  have hm : 0 ≤ 20 * w.Round := by omega
  have hd := Int.mul_ediv_add_emod (20 * w.Round + c - 1) c
  have hd2 := Int.emod_nonneg (20 * w.Round + c - 1) (show c ≠ 0 by omega)
  have hd3 := Int.emod_lt_of_pos (20 * w.Round + c - 1) (show 0 < c by omega)
  have hq : 0 ≤ (20 * w.Round + c - 1) / c := Int.ediv_nonneg (by omega) (by omega)
  generalize (20 * w.Round + c - 1) / c = q at *
  have hrep := Rep.mul (w := w) (k := 0) (by omega) q.toNat
  rw [hcc, show ((q.toNat : Nat) : Int) = q by omega, Int.mul_comm] at hrep
  have e20 := (cN_rounds h 20).1
  have hmono := cN_mono h (s := ((20 : Nat) : Int) * w.Round) (t := c * q) (by simp; omega) (by simp; omega)
  rw [e20] at hmono
  refine ⟨c * q, hrep, ?_, by omega⟩
  have : (1 : Int) ≤ w.Notches.length := by omega
  have := Int.mul_le_mul_of_nonneg_left this (show (0 : Int) ≤ ((20 : Nat) : Int) by simp)
  simp at this hmono
  omega
/-! ### The least, from those without a selection between -/
/-- The least of one (k+1) + best, .., in the order of the code. -/
def minF (one : Nat → Int) (best : List Int) (n : Nat) : Nat → Nat → Int → Int
  | 0, _, m => m
  | d + 1, k, m => minF one best n d (k + 1) (min m (one k + best.getD (n - k) 0))
def bestF (one : Nat → Int) : Nat → List Int
  | 0 => [0]
  | n + 1 => bestF one n ++ [minF one (bestF one n) (n + 1) n 1 (one (n + 1))]
def F (one : Nat → Int) (n : Nat) : Int := (bestF one n).getD n 0
theorem bestF_len (one : Nat → Int) : ∀ n, (bestF one n).length = n + 1
  | 0 => rfl
  | n + 1 => by simp [bestF, bestF_len one n]
theorem bestF_getD (one : Nat → Int) : ∀ (n k : Nat), k ≤ n → (bestF one n).getD k 0 = F one k
  | 0, k, hk => by
    have : k = 0 := by omega
    subst this
    rfl
  | n + 1, k, hk => by
    by_cases e : k = n + 1
    · subst e; rfl
    · have hl := bestF_len one n
      rw [← bestF_getD one n k (by omega), bestF, List.getD_eq_getElem?_getD, List.getElem?_append_left (by omega), ← List.getD_eq_getElem?_getD]
theorem F_zero (one : Nat → Int) : F one 0 = 0 := rfl
theorem minF_spec (one : Nat → Int) (best : List Int) (n : Nat) : ∀ (d k : Nat) (m : Int), minF one best n d k m ≤ m ∧ (∀ j, k ≤ j → j < k + d → minF one best n d k m ≤ one j + best.getD (n - j) 0) ∧ (minF one best n d k m = m ∨ ∃ j, k ≤ j ∧ j < k + d ∧ minF one best n d k m = one j + best.getD (n - j) 0)
  | 0, k, m => ⟨Int.le_refl m, fun j h1 h2 => by omega, .inl rfl⟩
  | d + 1, k, m => by
    obtain ⟨h1, h2, h3⟩ := minF_spec one best n d (k + 1) (min m (one k + best.getD (n - k) 0))
    simp only [minF]
    refine ⟨by omega, fun j a b => ?_, ?_⟩
    · by_cases e : j = k
      · subst e; omega
      · exact h2 j (by omega) (by omega)
    · rcases h3 with h3 | ⟨j, a, b, c⟩
      · by_cases q : m ≤ one k + best.getD (n - k) 0
        · exact .inl (by rw [h3]; omega)
        · exact .inr ⟨k, by omega, by omega, by rw [h3]; omega⟩
      · exact .inr ⟨j, by omega, by omega, c⟩
theorem F_succ (one : Nat → Int) (n : Nat) : F one (n + 1) = minF one (bestF one n) (n + 1) n 1 (one (n + 1)) := by
  have hl := bestF_len one n
  unfold F
  rw [bestF, List.getD_eq_getElem?_getD, List.getElem?_append_right (by omega), hl]
  simp
theorem F_le (one : Nat → Int) {n k : Nat} (h1 : 1 ≤ k) (h2 : k ≤ n) : F one n ≤ one k + F one (n - k) := by
  obtain ⟨n, rfl⟩ : ∃ m, n = m + 1 := ⟨n - 1, by omega⟩
  rw [F_succ]
  obtain ⟨a, b, c⟩ := minF_spec one (bestF one n) (n + 1) n 1 (one (n + 1))
  by_cases e : k = n + 1
  · subst e
    rw [Nat.sub_self, F_zero]
    omega
  · have := b k h1 (by omega)
    rw [bestF_getD one n _ (by omega)] at this
    exact this
theorem F_eq (one : Nat → Int) {n : Nat} (h : 1 ≤ n) : ∃ k, 1 ≤ k ∧ k ≤ n ∧ F one n = one k + F one (n - k) := by
  obtain ⟨n, rfl⟩ : ∃ m, n = m + 1 := ⟨n - 1, by omega⟩
  obtain ⟨a, b, c⟩ := minF_spec one (bestF one n) (n + 1) n 1 (one (n + 1))
  rcases c with c | ⟨j, c1, c2, c3⟩
  · exact ⟨n + 1, by omega, by omega, by rw [F_succ, c, Nat.sub_self, F_zero]; omega⟩
  · exact ⟨j, c1, by omega, by rw [F_succ, c3, bestF_getD one n _ (by omega)]⟩
/-- What is asked of the numbers: they rise. -/
structure Ones (one : Nat → Int) (N : Nat) : Prop where
  nn : ∀ k, k ≤ N → 0 ≤ one k
  pos : ∀ k, 1 ≤ k → k ≤ N → 1 ≤ one k
  mono : ∀ k k', k ≤ k' → k' ≤ N → one k ≤ one k'
theorem F_nn {one : Nat → Int} {N : Nat} (h : Ones one N) : ∀ n : Nat, n ≤ N → 0 ≤ F one n := by
  intro n
  induction n using Nat.strongRecOn with
  | ind n ih =>
    intro hn
    by_cases e : n = 0
    · subst e; exact Int.le_refl 0
    · obtain ⟨k, a, b, c⟩ := F_eq one (show 1 ≤ n by omega)
      have := ih (n - k) (by omega) (by omega)
      have := h.nn k (by omega)
      omega
theorem F_mono1 {one : Nat → Int} {N : Nat} (h : Ones one N) : ∀ n : Nat, n + 1 ≤ N → F one n ≤ F one (n + 1) := by
  intro n
  induction n using Nat.strongRecOn with
  | ind n ih =>
    intro hn
    obtain ⟨k, a, b, c⟩ := F_eq one (show 1 ≤ n + 1 by omega)
    by_cases e : k = n + 1
    · subst e
      rw [Nat.sub_self, F_zero] at c
      by_cases e0 : n = 0
      · subst e0
        have := F_nn h 1 (by omega)
        rw [F_zero]
        exact this
      · have h1 := F_le one (n := n) (k := n) (by omega) (by omega)
        rw [Nat.sub_self, F_zero] at h1
        have := h.mono n (n + 1) (by omega) (by omega)
        omega
    · have h1 := F_le one (n := n) (k := k) a (by omega)
      have h2 := ih (n - k) (by omega) (by omega)
      rw [show n - k + 1 = n + 1 - k by omega] at h2
      omega
theorem F_mono {one : Nat → Int} {N : Nat} (h : Ones one N) {n : Nat} : ∀ {m : Nat}, n ≤ m → m ≤ N → F one n ≤ F one m
  | 0, h1, _ => by
    have : n = 0 := by omega
    subst this
    exact Int.le_refl _
  | m + 1, h1, h2 => by
    by_cases e : n = m + 1
    · subst e; exact Int.le_refl _
    · have := F_mono h (n := n) (m := m) (by omega) (by omega)
      have := F_mono1 h m h2
      omega
theorem F_sub {one : Nat → Int} {N : Nat} (h : Ones one N) {b : Nat} : ∀ a : Nat, a + b ≤ N → F one (a + b) ≤ F one a + F one b := by
  intro a
  induction a using Nat.strongRecOn with
  | ind a ih =>
    intro hn
    by_cases e : a = 0
    · subst e
      rw [Nat.zero_add, F_zero]
      omega
    · obtain ⟨k, c1, c2, c3⟩ := F_eq one (show 1 ≤ a by omega)
      have h1 := F_le one (n := a + b) (k := k) c1 (by omega)
      have h2 := ih (a - k) (by omega) (by omega)
      rw [show a - k + b = a + b - k by omega] at h2
      omega
theorem ones_ok {w : Wheel} (h : OkW w) {one : Nat → Int} {N : Nat} (ho : ∀ k : Nat, k ≤ N → IsOne w k (one k)) : Ones one N :=
  ⟨fun k hk => (ho k hk).rep.nn h, fun k h1 hk => (ho k hk).pos h (by omega), fun k k' h1 h2 => (ho k (by omega)).mono (ho k' h2) (by omega)⟩

/-! ### No way buys so many plays for less -/
/-- What is known of a stand behind coins that are worth c cents, and so many plays. -/
def Cost (w : Wheel) (one : Nat → Int) (P : Nat) (c place bought : Int) : Prop :=
  ∃ c' s b', Rep w s ∧ c = c' + s ∧ place = (turn w 0 s).1 ∧ bought = b' + cN w s ∧ 0 ≤ b' ∧ F one (min b' P).toNat ≤ c'
theorem Cost.start {w : Wheel} (h : OkW w) {one : Nat → Int} {P : Nat} : Cost w one P 0 0 0 := by
  have e := turn_zero h
  refine ⟨0, 0, 0, .zero, rfl, by rw [e], by rw [cN_zero h]; rfl, by omega, ?_⟩
  rw [show (min 0 (P : Int)).toNat = 0 by omega]
  exact Int.le_refl 0
theorem Cost.coin {w : Wheel} (h : OkW w) {one : Nat → Int} {P : Nat} {c place bought : Int} (hc : Cost w one P c place bought) {k : Nat} (hk : k < w.Coins.length) : Cost w one P (c + coin w k) (turn w place (coin w k)).1 (bought + (turn w place (coin w k)).2) := by
  obtain ⟨c', s, b', h1, h2, h3, h4, h5, h6⟩ := hc
  have hs := h1.nn h
  have hco := kcoin h hk
  obtain ⟨a, b⟩ := cN_add h hs (show 0 ≤ Go.Law.coin w k by omega)
  exact ⟨c', s + Go.Law.coin w k, b', .add s k h1 hk, by omega, by rw [h3, b], by rw [h4, a, h3]; omega, h5, h6⟩
theorem F_take {w : Wheel} (h : OkW w) {one : Nat → Int} {P : Nat} (ho : ∀ k : Nat, k ≤ P → IsOne w k (one k)) {s : Int} (hs : Rep w s) : F one (min (cN w s) P).toNat ≤ s := by
  have hnn := hs.nn h
  have hc := cN_nn h hnn
  by_cases e : (min (cN w s) (P : Int)).toNat = 0
  · rw [e, F_zero]; exact hnn
  · have h1 := F_le one (n := (min (cN w s) (P : Int)).toNat) (k := (min (cN w s) (P : Int)).toNat) (by omega) (by omega)
    rw [Nat.sub_self, F_zero] at h1
    have := (ho (min (cN w s) (P : Int)).toNat (by omega)).least s hs (by omega)
    omega
theorem Cost.le {w : Wheel} (h : OkW w) {one : Nat → Int} {P : Nat} (ho : ∀ k : Nat, k ≤ P → IsOne w k (one k)) {c place bought : Int} (hc : Cost w one P c place bought) : F one (min bought P).toNat ≤ c := by
  obtain ⟨c', s, b', h1, h2, h3, h4, h5, h6⟩ := hc
  have ok := ones_ok h ho
  have hcn := cN_nn h (h1.nn h)
  have ht := F_take h ho h1
  by_cases e : (min b' (P : Int)).toNat + (min (cN w s) (P : Int)).toNat ≤ P
  · have h7 := F_sub ok (b := (min (cN w s) (P : Int)).toNat) (min b' (P : Int)).toNat e
    have h8 := F_mono ok (n := (min bought (P : Int)).toNat) (m := (min b' (P : Int)).toNat + (min (cN w s) (P : Int)).toNat) (by omega) e
    omega
  · -- the second part is cut
    have h7 := F_sub ok (b := P - (min b' (P : Int)).toNat) (min b' (P : Int)).toNat (by omega)
    have h8 := F_mono ok (n := P - (min b' (P : Int)).toNat) (m := (min (cN w s) (P : Int)).toNat) (by omega) (by omega)
    have h9 := F_mono ok (n := (min bought (P : Int)).toNat) (m := (min b' (P : Int)).toNat + (P - (min b' (P : Int)).toNat)) (by omega) (by omega)
    omega
theorem Cost.select {w : Wheel} (h : OkW w) {one : Nat → Int} {P : Nat} (ho : ∀ k : Nat, k ≤ P → IsOne w k (one k)) {c place bought : Int} (hc : Cost w one P c place bought) : Cost w one P c 0 bought := by
  have hle := hc.le h ho
  obtain ⟨c', s, b', h1, h2, h3, h4, h5, h6⟩ := hc
  have e := turn_zero h
  have := cN_nn h (h1.nn h)
  exact ⟨c, 0, bought, .zero, by omega, by rw [e], by rw [cN_zero h]; omega, by omega, hle⟩

/-! ### Points -/
structure OkPt (w : Wheel) (P : Int) (x : Point_) : Prop where
  p0 : 0 ≤ x.Stand.Place
  p1 : x.Stand.Place < w.Round
  c0 : 0 ≤ x.Stand.Credit
  c1 : x.Stand.Credit ≤ P
  b0 : 0 ≤ x.bought
  b1 : x.bought ≤ 200
def stands (x : Point_) : List Stand := x.Stand :: (if x.Stand.Credit > 0 ∧ x.Stand.Place > 0 then [⟨0, x.Stand.Credit - 1⟩] else [])
def child (w : Wheel) (P : Int) (x : Point_) (s : Stand) (k : Nat) : Point_ := ⟨⟨(turn w s.Place (coin w k)).1, min (s.Credit + (turn w s.Place (coin w k)).2) P⟩, x.bought + (turn w s.Place (coin w k)).2⟩
inductive Reach (w : Wheel) (P : Int) : Nat → Point_ → Prop
  | start : Reach w P 0 ⟨⟨0, 0⟩, 0⟩
  | step (c : Nat) (x : Point_) (s : Stand) (k : Nat) : Reach w P c x → x.bought < P → s ∈ stands x → k < w.Coins.length → Reach w P (c + (coin w k).toNat) (child w P x s k)
theorem stands_ok {w : Wheel} (h : OkW w) {P : Int} {x : Point_} (hx : OkPt w P x) {s : Stand} (hs : s ∈ stands x) : OkS w s P := by
  have := h.r1
  unfold stands at hs
  rcases List.mem_cons.1 hs with rfl | hs
  · exact ⟨hx.p0, hx.p1, hx.c0, hx.c1⟩
  · split at hs
    · rename_i q
      simp only [List.mem_singleton] at hs
      subst hs
      have := hx.c1
      exact ⟨by show (0 : Int) ≤ 0; omega, by show (0 : Int) < _; omega, by show 0 ≤ x.Stand.Credit - 1; omega, by show x.Stand.Credit - 1 ≤ _; omega⟩
    · simp at hs
theorem child_ok {w : Wheel} (h : OkW w) {P : Int} (hP : 1 ≤ P ∧ P ≤ 20) {x : Point_} (hx : OkPt w P x) (hb : x.bought < P) {s : Stand} (hs : s ∈ stands x) {k : Nat} (hk : k < w.Coins.length) : OkPt w P (child w P x s k) := by
  have ok := stands_ok h hx hs
  have hco := kcoin h hk
  have ht := turn_range h ok.p0 ok.p1 (show 0 ≤ coin w k by omega)
  have := ok.c0
  have := hx.b0
  exact ⟨ht.1.1, ht.1.2, by show 0 ≤ min _ _; omega, by show min _ _ ≤ _; omega, by show 0 ≤ x.bought + _; omega, by show x.bought + _ ≤ _; omega⟩
theorem Reach.ok {w : Wheel} (h : OkW w) {P : Int} (hP : 1 ≤ P ∧ P ≤ 20) {c : Nat} {x : Point_} (hr : Reach w P c x) : OkPt w P x := by
  have := h.r1
  induction hr with
  | start => exact ⟨by show (0 : Int) ≤ 0; omega, by show (0 : Int) < _; omega, by show (0 : Int) ≤ 0; omega, by show (0 : Int) ≤ P; omega, by show (0 : Int) ≤ 0; omega, by show (0 : Int) ≤ 200; omega⟩
  | step c x s k _ hb hs hk ih => exact child_ok h hP ih hb hs hk
theorem okPoint_of {w : Wheel} (h : OkW w) {P : Int} (hP : 1 ≤ P ∧ P ≤ 20) {x : Point_} (hx : OkPt w P x) : okPoint_ x = true := by
  have := h.r2
  obtain ⟨a, b, c, d, e, f⟩ := hx
  simp only [okPoint_, List.all_cons, List.all_nil, Bool.and_true, Bool.and_eq_true]
  exact ⟨okI_of (by omega) (by omega), okI_of (by omega) (by omega), okI_of (by omega) (by omega)⟩
/-! ### How many points there can be -/
theorem nodup_len : ∀ (n : Nat) (l : List Nat), l.Nodup → (∀ x, x ∈ l → x < n) → l.length ≤ n
  | 0, l, _, h => by
    cases l with
    | nil => simp
    | cons x l => have := h x (by simp); omega
  | n + 1, l, hd, h => by
    by_cases q : n ∈ l
    · have h1 := nodup_len n (l.erase n) (hd.erase n) (fun x hx => by
        have h2 := (List.Nodup.mem_erase_iff hd).1 hx
        have := h x h2.2
        have := h2.1
        omega)
      rw [List.length_erase_of_mem q] at h1
      omega
    · have h1 := nodup_len n l hd (fun x hx => by
        have := h x hx
        by_cases e : x = n
        · subst e; exact (q hx).elim
        · omega)
      omega
def code (x : Point_) : Nat := (x.Stand.Place + 200 * (x.Stand.Credit + 21 * x.bought)).toNat
theorem nodup_map {α β : Type} {f : α → β} : ∀ {l : List α}, l.Nodup → (∀ a, a ∈ l → ∀ b, b ∈ l → f a = f b → a = b) → (l.map f).Nodup
  | [], _, _ => by simp
  | x :: l, hd, hi => by
    rw [List.nodup_cons] at hd
    rw [List.map_cons, List.nodup_cons]
    refine ⟨fun hm => ?_, nodup_map hd.2 (fun a ha b hb => hi a (by simp [ha]) b (by simp [hb]))⟩
    obtain ⟨y, hy, he⟩ := List.mem_map.1 hm
    have := hi y (by simp [hy]) x (by simp) he
    subst this
    exact hd.1 hy
theorem points_len {w : Wheel} (h : OkW w) {P : Int} (hP : 1 ≤ P ∧ P ≤ 20) {l : List Point_} (hd : l.Nodup) (hx : ∀ x, x ∈ l → OkPt w P x ∧ x.bought < P) : l.length ≤ 84000 := by
  have hr := h.r2
  have e := nodup_len 84000 (l.map code) (nodup_map hd (fun a ha b hb he => by
    obtain ⟨a1, a2⟩ := hx a ha
    obtain ⟨b1, b2⟩ := hx b hb
    have := a1.p0; have := a1.p1; have := a1.c0; have := a1.c1; have := a1.b0
    have := b1.p0; have := b1.p1; have := b1.c0; have := b1.c1; have := b1.b0
    unfold code at he
    obtain ⟨⟨pa, ca⟩, ba⟩ := a
    obtain ⟨⟨pb, cb⟩, bb⟩ := b
    simp only at *
    have e1 : ba = bb := by omega
    have e2 : ca = cb := by omega
    have e3 : pa = pb := by omega
    rw [e1, e2, e3])) (fun y hy => by
    obtain ⟨x, hxm, rfl⟩ := List.mem_map.1 hy
    obtain ⟨a1, a2⟩ := hx x hxm
    have := a1.p0; have := a1.p1; have := a1.c0; have := a1.c1; have := a1.b0
    unfold code
    omega)
  simpa using e
/-! ### The lists of points -/
def push (C : List (List Point_)) (j : Nat) (y : Point_) : List (List Point_) := C.set j (C.getD j [] ++ [y])
theorem push_len (C : List (List Point_)) (j : Nat) (y : Point_) : (push C j y).length = C.length := by simp [push]
theorem push_getD {C : List (List Point_)} {j c : Nat} {y : Point_} (hj : j < C.length) : (push C j y).getD c [] = C.getD c [] ++ (if j = c then [y] else []) := by
  unfold push
  by_cases e : j = c
  · subst e
    rw [if_pos rfl, List.getD_eq_getElem?_getD, List.getElem?_set_self hj]
    rfl
  · rw [if_neg e, List.append_nil, List.getD_eq_getElem?_getD, List.getElem?_set_ne e, ← List.getD_eq_getElem?_getD]
def pushK (w : Wheel) (P : Int) (x : Point_) (s : Stand) (i : Nat) : Nat → Nat → List (List Point_) → List (List Point_)
  | 0, _, C => C
  | d + 1, k, C => pushK w P x s i d (k + 1) (push C (i + (coin w k).toNat) (child w P x s k))
def pushS (w : Wheel) (P : Int) (x : Point_) (i : Nat) : List Stand → List (List Point_) → List (List Point_)
  | [], C => C
  | s :: l, C => pushS w P x i l (pushK w P x s i w.Coins.length 0 C)
theorem pushK_spec {w : Wheel} (h : OkW w) {P : Int} {x : Point_} {s : Stand} {i : Nat} : ∀ (d k : Nat) (C : List (List Point_)), k + d = w.Coins.length → i + 100 < C.length →
    (pushK w P x s i d k C).length = C.length ∧ (∀ c z, z ∈ (pushK w P x s i d k C).getD c [] ↔ z ∈ C.getD c [] ∨ ∃ j, k ≤ j ∧ j < k + d ∧ c = i + (coin w j).toNat ∧ z = child w P x s j) ∧ (∀ c, c ≤ i → (pushK w P x s i d k C).getD c [] = C.getD c []) ∧
    (∀ B : Nat, (∀ c, (C.getD c []).length ≤ B) → ∀ c, ((pushK w P x s i d k C).getD c []).length ≤ B + d)
  | 0, k, C, _, _ => ⟨rfl, fun c z => ⟨.inl, fun q => q.elim id fun ⟨j, a, b, _⟩ => by omega⟩, fun c _ => rfl, fun B hB c => hB c⟩
  | d + 1, k, C, hk, hC => by
    have hco := kcoin h (show k < w.Coins.length by omega)
    have hj : i + (coin w k).toNat < C.length := by omega
    obtain ⟨h1, h2, h3, h4⟩ := pushK_spec h (P := P) (x := x) (s := s) (i := i) d (k + 1) (push C (i + (coin w k).toNat) (child w P x s k)) (by omega) (by rw [push_len]; exact hC)
    simp only [pushK]
    refine ⟨by rw [h1, push_len], fun c z => ?_, fun c hc => ?_, fun B hB c => ?_⟩
    · rw [h2, push_getD hj, List.mem_append]
      constructor
      · rintro ((q | q) | ⟨j, a, b, e⟩)
        · exact .inl q
        · split at q
          · rename_i e
            exact .inr ⟨k, by omega, by omega, e.symm, by simpa using q⟩
          · simp at q
        · exact .inr ⟨j, by omega, by omega, e⟩
      · rintro (q | ⟨j, a, b, e1, e2⟩)
        · exact .inl (.inl q)
        · by_cases e : j = k
          · subst e
            exact .inl (.inr (by rw [if_pos e1.symm]; simpa using e2))
          · exact .inr ⟨j, by omega, by omega, e1, e2⟩
    · rw [h3 c hc, push_getD hj, if_neg (by omega), List.append_nil]
    · have := h4 (B + 1) (fun c => by
        rw [push_getD hj, List.length_append]
        have := hB c
        split
        · simp only [List.length_singleton]; omega
        · simp only [List.length_nil]; omega) c
      omega
theorem pushS_spec {w : Wheel} (h : OkW w) {P : Int} {x : Point_} {i : Nat} : ∀ (l : List Stand) (C : List (List Point_)), i + 100 < C.length →
    (pushS w P x i l C).length = C.length ∧ (∀ c z, z ∈ (pushS w P x i l C).getD c [] ↔ z ∈ C.getD c [] ∨ ∃ s, s ∈ l ∧ ∃ j, j < w.Coins.length ∧ c = i + (coin w j).toNat ∧ z = child w P x s j) ∧ (∀ c, c ≤ i → (pushS w P x i l C).getD c [] = C.getD c []) ∧
    (∀ B : Nat, (∀ c, (C.getD c []).length ≤ B) → ∀ c, ((pushS w P x i l C).getD c []).length ≤ B + 4 * l.length)
  | [], C, _ => ⟨rfl, fun c z => ⟨.inl, fun q => q.elim id fun ⟨s, a, _⟩ => by simp at a⟩, fun c _ => rfl, fun B hB c => hB c⟩
  | s :: l, C, hC => by
    have h4c := h.clen
    obtain ⟨a1, a2, a3, a4⟩ := pushK_spec h (P := P) (x := x) (s := s) (i := i) w.Coins.length 0 C (by omega) hC
    obtain ⟨h1, h2, h3, h4⟩ := pushS_spec h (P := P) (x := x) (i := i) l (pushK w P x s i w.Coins.length 0 C) (by rw [a1]; exact hC)
    simp only [pushS]
    refine ⟨by rw [h1, a1], fun c z => ?_, fun c hc => by rw [h3 c hc, a3 c hc], fun B hB c => ?_⟩
    · rw [h2, a2]
      constructor
      · rintro ((q | ⟨j, _, b, e⟩) | ⟨s', a, e⟩)
        · exact .inl q
        · exact .inr ⟨s, by simp, j, by omega, e⟩
        · exact .inr ⟨s', by simp [a], e⟩
      · rintro (q | ⟨s', a, j, b, e⟩)
        · exact .inl (.inl q)
        · rcases List.mem_cons.1 a with rfl | a
          · exact .inl (.inr ⟨j, by omega, by omega, e⟩)
          · exact .inr ⟨s', a, j, b, e⟩
    · have := h4 (B + w.Coins.length) (a4 B hB) c
      simp only [List.length_cons]
      omega
theorem stands_len (x : Point_) : (stands x).length ≤ 2 := by
  unfold stands
  split <;> simp

/-! ### The loops -/
abbrev opened (w : Wheel) : (Wheel_ × Int) × Unit := ((⟨w⟩, 0), ())
theorem cheap_l4 {n : Nat} {w : Wheel} (h : OkW w) (hn : 1000 ≤ n) {P : Int} (hP : 1 ≤ P ∧ P ≤ 20) (rec3 : Int → List (List Point_) → Option (Int × Int)) {i : Nat} (hi : i ≤ 6000) {x : Point_} (hx : OkPt w P x) (v37 : Int) {s : Stand} (hs : OkS w s P) :
    ∀ (d k m : Nat) (C : List (List Point_)), k + d = w.Coins.length → d < m → i + 100 < C.length → (∃ B : Nat, (∀ c, (C.getD c []).length ≤ B) ∧ B + d ≤ 1000000) → C.length ≤ 10000 →
      coins_Cheapest_l4 n rec3 w P (opened w) i x v37 s m (k : Int) C = coins_Cheapest_j6 rec3 v37 (pushK w P x s i d k C) := by
  intro d
  induction d with
  | zero =>
    intro k m C hk hm hC hB hC2
    obtain ⟨m, rfl⟩ : ∃ q, m = q + 1 := ⟨m - 1, by omega⟩
    simp only [coins_Cheapest_l4, coins_Cheapest_l4_b, pushK]
    rw [if_neg (by simp; omega)]
  | succ d ih =>
    intro k m C hk hm hC hB hC2
    obtain ⟨m, rfl⟩ : ∃ q, m = q + 1 := ⟨m - 1, by omega⟩
    obtain ⟨B, hB, hB2⟩ := hB
    have hkl : k < w.Coins.length := by omega
    have hco := kcoin h hkl
    have h4 := h.clen
    have ht := turn_range h hs.p0 hs.p1 (show 0 ≤ coin w k by omega)
    have hx0 := hx.b0
    have hx1 := hx.b1
    have hs0 := hs.c0
    have hs1 := hs.c1
    have hj : i + (coin w k).toNat < C.length := by omega
    have e1 : w64 ((i : Int) + coin w k) = ((i + (coin w k).toNat : Nat) : Int) := by rw [w64_id (by omega) (by omega)]; omega
    have hl := hB (i + (coin w k).toNat)
    have eg : C[i + (coin w k).toNat] = C.getD (i + (coin w k).toNat) [] := by simp [hj]
    have hact : (actS w s (k : Int)).1 = ⟨(turn w s.Place (coin w k)).1, s.Credit + (turn w s.Place (coin w k)).2⟩ := by
      unfold actS
      rw [if_pos (by omega)]
    simp only [coins_Cheapest_l4, coins_Cheapest_l4_b, pushK]
    rw [if_pos (by simp; omega), coin_idx (by omega) (by omega), bnd_some, act_eq h (by omega) hs (by omega) (okAct_k hkl), bnd_some, hact, e1, idx_nat hj, bnd_some, eg, app_ok (by simp only [List.length_singleton]; omega), bnd_some, bnd_some, w64_id (x := _ - s.Credit) (by simp only; omega) (by simp only; omega), w64_id (x := x.bought + _) (by simp only; omega) (by simp only; omega), Int.toNat_natCast, w64_id (x := (k : Int) + 1) (by omega) (by omega)]
    have hrec := ih (k + 1) m (push C (i + (coin w k).toNat) (child w P x s k)) (by omega) (by omega) (by rw [push_len]; exact hC) ⟨B + 1, fun c => by
      rw [push_getD hj, List.length_append]
      have := hB c
      split
      · simp only [List.length_singleton]; omega
      · simp only [List.length_nil]; omega, by omega⟩ (by rw [push_len]; exact hC2)
    rw [show (((k + 1 : Nat)) : Int) = (k : Int) + 1 by simp] at hrec
    rw [← hrec]
    unfold push child
    congr 4
    simp only
    congr 1
    omega
theorem cheap_l3 {n : Nat} {w : Wheel} (h : OkW w) (hn : 1000 ≤ n) {P : Int} (hP : 1 ≤ P ∧ P ≤ 20) (rec2 : Int → List (Point_ × Int) → List (List Point_) → Option (Int × Int)) {i : Nat} (hi : i ≤ 6000) {x : Point_} (hx : OkPt w P x) (v23 : Int) (M : List (Point_ × Int)) (x31 : Int)
    (l : List Stand) (hl : l.length ≤ 2) (hs : ∀ s, s ∈ l → OkS w s P) (C : List (List Point_)) (hC : i + 100 < C.length) (hB : ∀ c, (C.getD c []).length ≤ 900000) (hC2 : C.length ≤ 10000) :
    coins_Cheapest_l3 n rec2 w P (opened w) i v23 M x x31 l n 0 C = coins_Cheapest_j4 rec2 v23 (mset M x (w64 (x31 + 1))) (pushS w P x i l C) := by
  have h4 := h.clen
  have key := loopI (F := fun m j (C : List (List Point_)) => coins_Cheapest_l3 n rec2 w P (opened w) i v23 M x x31 l m j C) (xs := l) (spec := fun k C => coins_Cheapest_j4 rec2 v23 (mset M x (w64 (x31 + 1))) (pushS w P x i k C))
    (I := fun k C => i + 100 < C.length ∧ C.length ≤ 10000 ∧ (∀ c, (C.getD c []).length ≤ 900100 - 10 * k.length) ∧ k.length ≤ 2 ∧ ∀ s, s ∈ k → OkS w s P) (by omega)
    (fun m C hI => by simp [coins_Cheapest_l3, coins_Cheapest_l3_b, pushS])
    (fun m j s k C hI hx' hj _ _ hrec => by
      obtain ⟨i1, i2, i3, i4, i5⟩ := hI
      simp only [List.length_cons] at i3 i4
      obtain ⟨a1, a2, a3, a4⟩ := pushK_spec h (P := P) (x := x) (s := s) (i := i) w.Coins.length 0 C (by omega) i1
      simp only [coins_Cheapest_l3, coins_Cheapest_l3_b, pushS]
      rw [if_pos (by simpa using hj), hx', bnd_some]
      have h4' := cheap_l4 h hn hP (coins_Cheapest_l3 n rec2 w P (opened w) i v23 M x x31 l m) hi hx (j : Int) (i5 s (by simp)) w.Coins.length 0 n C (by omega) (by omega) i1 ⟨_, i3, by omega⟩ i2
      rw [show ((0 : Nat) : Int) = 0 from rfl] at h4'
      rw [h4']
      unfold coins_Cheapest_j6
      exact hrec _ ⟨by rw [a1]; exact i1, by rw [a1]; exact i2, fun c => by have := a4 _ i3 c; omega, by omega, fun s' hs' => i5 s' (by simp [hs'])⟩)
    l 0 n C (by omega) rfl (by omega) ⟨hC, hC2, fun c => by have := hB c; omega, hl, hs⟩
  exact key
/-- The children of a point are there. -/
def Kids (w : Wheel) (P : Int) (C : List (List Point_)) (c0 : Nat) (x : Point_) : Prop := ∀ s, s ∈ stands x → ∀ k, k < w.Coins.length → child w P x s k ∈ C.getD (c0 + (coin w k).toNat) []
/-- What stands while the points of so many cents are looked at. -/
structure Lv (w : Wheel) (P : Int) (i : Nat) (T : Int) (M : List (Point_ × Int)) (C : List (List Point_)) : Prop where
  nd : (M.map (·.1)).Nodup
  key : ∀ x, x ∈ M.map (·.1) → OkPt w P x ∧ x.bought < P ∧ ∃ c0, c0 ≤ i ∧ Kids w P C c0 x
  cnt : ∀ x, mhas M x = true → 1 ≤ mget M x ∧ mget M x ≤ T
  rch : ∀ c x, x ∈ C.getD c [] → Reach w P c x
  fst : (⟨⟨0, 0⟩, 0⟩ : Point_) ∈ C.getD 0 []
  siz : ∀ c, (C.getD c []).length ≤ 1 + 8 * M.length
  done : ∀ c, c < i → ∀ x, x ∈ C.getD c [] → x.bought < P ∧ ∃ c0, c0 ≤ c ∧ Kids w P C c0 x
theorem Lv.small {w : Wheel} (h : OkW w) {P : Int} (hP : 1 ≤ P ∧ P ≤ 20) {i : Nat} {T : Int} {M : List (Point_ × Int)} {C : List (List Point_)} (hI : Lv w P i T M C) : M.length ≤ 84000 := by
  have := points_len h hP hI.nd (fun x hx => ⟨(hI.key x hx).1, (hI.key x hx).2.1⟩)
  simpa using this
theorem mset_len {κ : Type} [DecidableEq κ] {M : List (κ × Int)} {k : κ} {v : Int} : (mset M k v).length = M.length + (if mhas M k = true then 0 else 1) := by
  have e := congrArg List.length (mset_keys (M := M) (k := k) (v := v))
  rw [List.length_map] at e
  rw [e]
  split <;> simp
theorem cheap_l2 {n : Nat} {w : Wheel} (h : OkW w) (hn : 1000000 ≤ n) {P : Int} (hP : 1 ≤ P ∧ P ≤ 20) (rec1 : Int → List (Point_ × Int) → List (List Point_) → Option (Int × Int)) {i : Nat} (hi : i ≤ 6000) (X : List Point_) (hX : X.length ≤ 900000) :
    ∀ (k pre : List Point_) (m : Nat) (T : Int) (M : List (Point_ × Int)) (C : List (List Point_)), X = pre ++ k → k.length < m → 0 ≤ T → T + k.length ≤ 1099511627776 → Lv w P i T M C → C.length = i + 101 → C.getD i [] = X → (∀ x, x ∈ pre → x ∈ M.map (·.1)) →
      ((∃ x, x ∈ k ∧ P ≤ x.bought) ∧ coins_Cheapest_l2 n rec1 w P (opened w) i X m (pre.length : Int) M C = some ((i : Int), 0)) ∨
      (∃ M' C', coins_Cheapest_l2 n rec1 w P (opened w) i X m (pre.length : Int) M C = coins_Cheapest_j2 rec1 i M' C' ∧ Lv w P i (T + k.length) M' C' ∧ C'.length = i + 101 ∧ C'.getD i [] = X ∧ ∀ x, x ∈ X → x ∈ M'.map (·.1)) := by
  intro k
  induction k with
  | nil =>
    intro pre m T M C hx hm hT hT2 hI hC hCi hp
    obtain ⟨m, rfl⟩ : ∃ q, m = q + 1 := ⟨m - 1, by omega⟩
    refine .inr ⟨M, C, ?_, by simpa using hI, hC, hCi, fun x hxx => hp x (by rw [hx] at hxx; simpa using hxx)⟩
    simp only [coins_Cheapest_l2, coins_Cheapest_l2_b]
    rw [if_neg (by rw [hx]; simp)]
  | cons x k ih =>
    intro pre m T M C hx hm hT hT2 hI hC hCi hp
    obtain ⟨m, rfl⟩ : ∃ q, m = q + 1 := ⟨m - 1, by omega⟩
    simp only [List.length_cons] at hm hT2
    have hxl : X.length = pre.length + (k.length + 1) := by rw [hx]; simp
    have hxX : x ∈ X := by rw [hx]; simp
    have hreach := hI.rch i x (by rw [hCi]; exact hxX)
    have okx := hreach.ok h hP
    have hsm := hI.small h hP
    simp only [coins_Cheapest_l2, coins_Cheapest_l2_b]
    rw [if_pos (by simp; omega), show idx X (pre.length : Int) = some x by rw [hx, idx_mid], bnd_some]
    by_cases hb : P ≤ x.bought
    · rw [if_pos (by simpa using hb)]
      exact .inl ⟨⟨x, by simp, hb⟩, rfl⟩
    · rw [if_neg (by simpa using hb)]
      have hmok : ∀ M' : List (Point_ × Int), (M'.map (·.1)).Nodup → (∀ y, y ∈ M'.map (·.1) → y = x ∨ y ∈ M.map (·.1)) → mok okPoint_ M' x = true := by
        intro M' hnd hall
        unfold Go.AM.mok
        rw [okPoint_of h hP okx, show M'.all (fun p => okPoint_ p.1) = true from List.all_eq_true.2 fun e he => ?_, show decide ((M'.map (·.1)).Nodup) = true by simpa using hnd]
        · rfl
        · rcases hall e.1 (List.mem_map_of_mem (f := (·.1)) he) with q | q
          · rw [q]; exact okPoint_of h hP okx
          · exact okPoint_of h hP (hI.key _ q).1
      have l1 : mlook okPoint_ M x = some (mget M x) := if_pos (hmok M hI.nd fun y hy => .inr hy)
      have hw : w64 (mget M x + 1) = mget M x + 1 := by
        cases hh : mhas M x with
        | true =>
          have := hI.cnt x hh
          exact w64_id (by omega) (by omega)
        | false => rw [mget_no hh]; rfl
      have l2 : mlook okPoint_ (mset M x (mget M x + 1)) x = some (mget M x + 1) := by
        have : mok okPoint_ (mset M x (mget M x + 1)) x = true := hmok _ (mset_nodup hI.nd) fun y hy => by
          rw [mset_keys] at hy
          split at hy
          · exact .inr hy
          · rcases List.mem_append.1 hy with q | q
            · exact .inr q
            · exact .inl (by simpa using q)
        unfold mlook
        rw [if_pos this, mget_set, if_pos rfl]
      rw [l1, bnd_some, bnd_some, hw, l2, bnd_some]
      have keysub : ∀ y, y ∈ M.map (·.1) → y ∈ (mset M x (mget M x + 1)).map (·.1) := fun y hy => by
        rw [mset_keys]
        split
        · exact hy
        · exact List.mem_append_left _ hy
      have keyx : x ∈ (mset M x (mget M x + 1)).map (·.1) := by
        rw [← mhas_iff, mhas_set]
        exact .inl rfl
      have cnt' : ∀ y, mhas (mset M x (mget M x + 1)) y = true → 1 ≤ mget (mset M x (mget M x + 1)) y ∧ mget (mset M x (mget M x + 1)) y ≤ T + 1 := fun y hy => by
        rw [mget_set]
        by_cases e : x = y
        · rw [if_pos e]
          cases hh : mhas M x with
          | true => have := hI.cnt x hh; omega
          | false => rw [mget_no hh]; omega
        · rw [if_neg e]
          have := hI.cnt y ((mhas_set.1 hy).resolve_left (fun q => e q.symm))
          omega
      have epre : ((pre ++ [x]).length : Int) = (pre.length : Int) + 1 := by simp
      have next := fun C' (hI' : Lv w P i (T + 1) (mset M x (mget M x + 1)) C') (hC' : C'.length = i + 101) (hCi' : C'.getD i [] = X) => ih (pre ++ [x]) m (T + 1) (mset M x (mget M x + 1)) C' (by rw [hx]; simp) (by omega) (by omega) (by omega) hI' hC' hCi' (fun y hy => by
        rcases List.mem_append.1 hy with q | q
        · exact keysub y (hp y q)
        · simp only [List.mem_singleton] at q
          subst q
          exact keyx)
      have wrap : ∀ (C' : List (List Point_)) (res : Option (Int × Int)), res = coins_Cheapest_l2 n rec1 w P (opened w) i X m ((pre.length : Int) + 1) (mset M x (mget M x + 1)) C' → Lv w P i (T + 1) (mset M x (mget M x + 1)) C' → C'.length = i + 101 → C'.getD i [] = X →
          ((∃ y, y ∈ x :: k ∧ P ≤ y.bought) ∧ res = some ((i : Int), 0)) ∨ (∃ M' C'', res = coins_Cheapest_j2 rec1 i M' C'' ∧ Lv w P i (T + ((k.length + 1 : Nat) : Int)) M' C'' ∧ C''.length = i + 101 ∧ C''.getD i [] = X ∧ ∀ y, y ∈ X → y ∈ M'.map (·.1)) := by
        intro C' res hres hI' hC' hCi'
        rw [hres, ← epre]
        rcases next C' hI' hC' hCi' with ⟨⟨y, a, b⟩, e⟩ | ⟨M', C'', a, b, c⟩
        · exact .inl ⟨⟨y, by simp [a], b⟩, e⟩
        · exact .inr ⟨M', C'', a, by rw [show T + ((k.length + 1 : Nat) : Int) = T + 1 + (k.length : Int) by simp; omega]; exact b, c⟩
      cases hh : mhas M x with
      | true =>
        have hc := hI.cnt x hh
        rw [if_pos (by simp; omega)]
        unfold coins_Cheapest_j4
        rw [w64_id (x := (pre.length : Int) + 1) (by omega) (by omega)]
        refine wrap C _ rfl ⟨mset_nodup hI.nd, fun y hy => ?_, cnt', hI.rch, hI.fst, fun c => by rw [mset_len]; have := hI.siz c; omega, hI.done⟩ hC hCi
        rw [mset_keys, if_pos hh] at hy
        exact hI.key y hy
      | false =>
        have hg : mget M x = 0 := mget_no hh
        rw [if_neg (by rw [hg]; simp)]
        obtain ⟨a1, a2, a3, a4⟩ := pushS_spec h (P := P) (x := x) (i := i) (stands x) C (by omega)
        have hst : ∀ s, s ∈ stands x → OkS w s P := fun s hs => stands_ok h okx hs
        have hsl := stands_len x
        have hfin := cheap_l3 h (show 1000 ≤ n by omega) hP (coins_Cheapest_l2 n rec1 w P (opened w) i X m) hi okx (pre.length : Int) M (mget M x) (stands x) hsl hst C (by omega) (fun c => by have := hI.siz c; omega) (by omega)
        rw [hw] at hfin
        have htake : (if decide (x.Stand.Credit > 0) = true then coins_Cheapest_j7 n (coins_Cheapest_l2 n rec1 w P (opened w) i X m) w P (opened w) i (pre.length : Int) M C x (mget M x) (decide (x.Stand.Place > 0)) else coins_Cheapest_j7 n (coins_Cheapest_l2 n rec1 w P (opened w) i X m) w P (opened w) i (pre.length : Int) M C x (mget M x) false) =
            coins_Cheapest_l3 n (coins_Cheapest_l2 n rec1 w P (opened w) i X m) w P (opened w) i (pre.length : Int) M x (mget M x) (stands x) n 0 C := by
          have hone : ¬ (x.Stand.Credit > 0 ∧ x.Stand.Place > 0) → coins_Cheapest_j7 n (coins_Cheapest_l2 n rec1 w P (opened w) i X m) w P (opened w) i (pre.length : Int) M C x (mget M x) false = coins_Cheapest_l3 n (coins_Cheapest_l2 n rec1 w P (opened w) i X m) w P (opened w) i (pre.length : Int) M x (mget M x) (stands x) n 0 C := by
            intro q
            unfold coins_Cheapest_j7 coins_Cheapest_j5 stands
            rw [if_neg (by simp), if_neg q]
          by_cases e1 : x.Stand.Credit > 0
          · rw [if_pos (by simpa using e1)]
            by_cases e2 : x.Stand.Place > 0
            · rw [show decide (x.Stand.Place > 0) = true by simpa using e2]
              have hact : (actS w x.Stand (-1)).1 = ⟨0, x.Stand.Credit - 1⟩ := by
                unfold actS
                rw [if_neg (by omega), if_neg (by omega)]
              unfold coins_Cheapest_j7 coins_Cheapest_j5 stands
              rw [if_pos rfl, if_pos ⟨e1, e2⟩]
              show Option.bind (coins_wheel_act n ⟨w⟩ x.Stand (-1)) _ = _
              rw [act_eq h (by omega) ⟨okx.p0, okx.p1, okx.c0, okx.c1⟩ (by omega) okAct_s, bnd_some, hact, app_ok (by simp), bnd_some]
              rfl
            · rw [show decide (x.Stand.Place > 0) = false by simpa using e2]
              exact hone (fun q => e2 q.2)
          · rw [if_neg (by simpa using e1)]
            exact hone (fun q => e1 q.1)
        rw [htake, hfin]
        unfold coins_Cheapest_j4
        rw [w64_id (x := (pre.length : Int) + 1) (by omega) (by omega)]
        have kidmono : ∀ c0 y, Kids w P C c0 y → Kids w P (pushS w P x i (stands x) C) c0 y := fun c0 y hk s hs j hj => (a2 _ _).2 (.inl (hk s hs j hj))
        refine wrap (pushS w P x i (stands x) C) _ rfl ⟨mset_nodup hI.nd, fun y hy => ?_, cnt', fun c z hz => ?_, ?_, fun c => ?_, fun c hc y hy => ?_⟩ (by rw [a1, hC]) (by rw [a3 i (by omega)]; exact hCi)
        · rw [mset_keys, if_neg (by simp [hh])] at hy
          rcases List.mem_append.1 hy with q | q
          · obtain ⟨b1, b2, c0, b3, b4⟩ := hI.key y q
            exact ⟨b1, b2, c0, b3, kidmono c0 y b4⟩
          · simp only [List.mem_singleton] at q
            subst q
            exact ⟨okx, by omega, i, by omega, fun s hs j hj => (a2 _ _).2 (.inr ⟨s, hs, j, hj, rfl, rfl⟩)⟩
        · rcases (a2 c z).1 hz with q | ⟨s, hs, j, hj, e1, e2⟩
          · exact hI.rch c z q
          · rw [e1, e2]
            exact .step i x s j hreach (by omega) hs hj
        · rw [a3 0 (by omega)]
          exact hI.fst
        · have hb2 := a4 (1 + 8 * M.length) hI.siz c
          rw [mset_len, if_neg (by simp [hh])]
          omega
        · rw [a3 c (by omega)] at hy
          obtain ⟨b1, c0, b2, b3⟩ := hI.done c hc y hy
          exact ⟨b1, c0, b2, kidmono c0 y b3⟩
theorem cheap_l5 {n : Nat} (rec1 : Int → List (Point_ × Int) → List (List Point_) → Option (Int × Int)) (w : Wheel) (P : Int) {i : Nat} (hi : i ≤ 6000) (M : List (Point_ × Int)) : ∀ (d m : Nat) (C : List (List Point_)), C.length + d = i + 101 → d < m →
    coins_Cheapest_l5 n rec1 w P (opened w) i M m C = coins_Cheapest_j3 n rec1 w P (opened w) i M (C ++ List.replicate d []) := by
  intro d
  induction d with
  | zero =>
    intro m C hC hm
    obtain ⟨m, rfl⟩ : ∃ q, m = q + 1 := ⟨m - 1, by omega⟩
    simp only [coins_Cheapest_l5, coins_Cheapest_l5_b]
    rw [w64_id (by omega) (by omega), if_neg (by simp; omega)]
    simp
  | succ d ih =>
    intro m C hC hm
    obtain ⟨m, rfl⟩ : ∃ q, m = q + 1 := ⟨m - 1, by omega⟩
    simp only [coins_Cheapest_l5, coins_Cheapest_l5_b]
    rw [w64_id (by omega) (by omega), if_pos (by simp; omega), app_ok (by simp; omega), bnd_some, ih m (C ++ [[]]) (by simp; omega) (by omega), List.replicate_succ]
    simp
theorem rep_getD (C : List (List Point_)) (d c : Nat) : (C ++ List.replicate d ([] : List Point_)).getD c [] = C.getD c [] := by
  rw [List.getD_eq_getElem?_getD, List.getD_eq_getElem?_getD]
  by_cases e : c < C.length
  · rw [List.getElem?_append_left e]
  · rw [List.getElem?_append_right (by omega), List.getElem?_replicate, List.getElem?_eq_none (by omega)]
    split <;> rfl
theorem Lv.reach {w : Wheel} (h : OkW w) {P : Int} {i : Nat} {T : Int} {M : List (Point_ × Int)} {C : List (List Point_)} (hI : Lv w P i T M C) {c : Nat} {x : Point_} (hr : Reach w P c x) (hc : c ≤ i) : ∃ c0, c0 ≤ c ∧ x ∈ C.getD c0 [] := by
  induction hr with
  | start => exact ⟨0, by omega, hI.fst⟩
  | step c x s k hx hb hs hk ih =>
    have hco := kcoin h hk
    obtain ⟨c0, h1, h2⟩ := ih (by omega)
    obtain ⟨_, c1, h3, h4⟩ := hI.done c0 (by omega) x h2
    exact ⟨c1 + (coin w k).toNat, by omega, h4 s hs k hk⟩
theorem Lv.cheap {w : Wheel} (h : OkW w) {P : Int} {i : Nat} {T : Int} {M : List (Point_ × Int)} {C : List (List Point_)} (hI : Lv w P i T M C) {c : Nat} {x : Point_} (hr : Reach w P c x) (hb : P ≤ x.bought) : i ≤ c := by
  rcases Nat.lt_or_ge c i with q | q
  · obtain ⟨c0, h1, h2⟩ := hI.reach h hr (by omega)
    have := (hI.done c0 (by omega) x h2).1
    omega
  · exact q
theorem cheap_l1 {n : Nat} {w : Wheel} (h : OkW w) (hn : 1000000 ≤ n) {P : Int} (hP : 1 ≤ P ∧ P ≤ 20) {cm : Nat} {xm : Point_} (hr : Reach w P cm xm) (hb : P ≤ xm.bought) (hcm : cm ≤ 5000) :
    ∀ (d i m : Nat) (T : Int) (M : List (Point_ × Int)) (C : List (List Point_)), i + d = cm + 1 → d < m → 0 ≤ T → T ≤ 2097152 * i → Lv w P i T M C → C.length ≤ i + 101 →
      ∃ r : Nat, coins_Cheapest_l1 n w P (opened w) m (i : Int) M C = some ((r : Int), 0) ∧ (∃ x, Reach w P r x ∧ P ≤ x.bought) ∧ ∀ c x, Reach w P c x → P ≤ x.bought → r ≤ c := by
  intro d
  induction d with
  | zero =>
    intro i m T M C hi hm hT hT2 hI hC
    have := hI.cheap h hr hb
    omega
  | succ d ih =>
    intro i m T M C hi hm hT hT2 hI hC
    obtain ⟨m, rfl⟩ : ∃ q, m = q + 1 := ⟨m - 1, by omega⟩
    have hsm := hI.small h hP
    obtain ⟨e, he⟩ : ∃ e, C.length + e = i + 101 := ⟨i + 101 - C.length, by omega⟩
    simp only [coins_Cheapest_l1, coins_Cheapest_l1_b]
    rw [cheap_l5 _ w P (show i ≤ 6000 by omega) M e n C he (by omega)]
    unfold coins_Cheapest_j3
    have hlen : (C ++ List.replicate e ([] : List Point_)).length = i + 101 := by simp; omega
    have hI' : Lv w P i T M (C ++ List.replicate e []) := by
      refine ⟨hI.nd, fun x hx => ?_, hI.cnt, fun c x hx => ?_, ?_, fun c => ?_, fun c hc x hx => ?_⟩
      · obtain ⟨a, b, c0, c1, c2⟩ := hI.key x hx
        exact ⟨a, b, c0, c1, fun s hs k hk => by rw [rep_getD]; exact c2 s hs k hk⟩
      · rw [rep_getD] at hx; exact hI.rch c x hx
      · rw [rep_getD]; exact hI.fst
      · rw [rep_getD]; exact hI.siz c
      · rw [rep_getD] at hx
        obtain ⟨a, c0, c1, c2⟩ := hI.done c hc x hx
        exact ⟨a, c0, c1, fun s hs k hk => by rw [rep_getD]; exact c2 s hs k hk⟩
    generalize C ++ List.replicate e [] = C1 at hlen hI' ⊢
    have hil : i < C1.length := by omega
    have eg : C1[i] = C1.getD i [] := by simp [hil]
    have hXl := hI'.siz i
    rw [idx_nat hil, bnd_some, eg]
    rcases cheap_l2 h hn hP (coins_Cheapest_l1 n w P (opened w) m) (show i ≤ 6000 by omega) (C1.getD i []) (by omega) (C1.getD i []) [] n T M C1 rfl (by omega) hT (by omega) hI' hlen rfl (fun x hx => by simp at hx) with ⟨⟨x, a, b⟩, c⟩ | ⟨M', C', a, b, c1, c2, c3⟩
    · exact ⟨i, c, ⟨x, hI'.rch i x a, b⟩, fun c x hr' hb' => hI'.cheap h hr' hb'⟩
    · rw [show ((([] : List Point_).length : Nat) : Int) = 0 from rfl] at a
      rw [a]
      unfold coins_Cheapest_j2
      rw [w64_id (by omega) (by omega), show (i : Int) + 1 = ((i + 1 : Nat) : Int) by simp]
      refine ih (i + 1) m (T + (C1.getD i []).length) M' C' (by omega) (by omega) (by omega) (by omega) ⟨b.nd, fun x hx => ?_, b.cnt, b.rch, b.fst, b.siz, fun c hc x hx => ?_⟩ (by omega)
      · obtain ⟨q1, q2, c0, q3, q4⟩ := b.key x hx
        exact ⟨q1, q2, c0, by omega, q4⟩
      · by_cases e : c = i
        · subst e
          rw [c2] at hx
          obtain ⟨q1, q2, c0, q3, q4⟩ := b.key x (c3 x hx)
          exact ⟨q2, c0, q3, q4⟩
        · exact b.done c (by omega) x hx

theorem Reach.cost {w : Wheel} (h : OkW w) {one : Nat → Int} {P : Nat} (ho : ∀ k : Nat, k ≤ P → IsOne w k (one k)) {c : Nat} {x : Point_} (hr : Reach w P c x) : Cost w one P c x.Stand.Place x.bought := by
  induction hr with
  | start => exact Cost.start h
  | step c x s k _ hb hs hk ih =>
    have hco := kcoin h hk
    rw [show (((c + (coin w k).toNat : Nat)) : Int) = (c : Int) + coin w k by omega]
    unfold stands at hs
    rcases List.mem_cons.1 hs with rfl | hs
    · exact ih.coin h hk
    · split at hs
      · simp only [List.mem_singleton] at hs
        subst hs
        exact (ih.select h ho).coin h hk
      · simp at hs
theorem seg {w : Wheel} (h : OkW w) {P : Int} (hP : 1 ≤ P ∧ P ≤ 20) {c : Nat} {x : Point_} (hr : Reach w P c x) (hst : x.Stand.Place = 0 ∨ x.Stand.Credit > 0) (hb : x.bought < P) {s : Int} (hs : Rep w s) :
    s = 0 ∨ (∃ (c' : Nat) (x' : Point_), (c' : Int) ≤ c + s ∧ Reach w P c' x' ∧ P ≤ x'.bought) ∨
      (∃ (c' : Nat) (x' : Point_), (c' : Int) = c + s ∧ Reach w P c' x' ∧ x'.Stand.Place = (turn w 0 s).1 ∧ x'.bought = x.bought + cN w s ∧ (1 ≤ cN w s → 1 ≤ x'.Stand.Credit)) := by
  have okx := hr.ok h hP
  induction hs with
  | zero => exact .inl rfl
  | add s k hs hk ih =>
    have hco := kcoin h hk
    have hs0 := hs.nn h
    obtain ⟨a1, a2⟩ := cN_add h hs0 (show 0 ≤ coin w k by omega)
    refine .inr ?_
    by_cases e0 : s = 0
    · subst e0
      have first : ∃ s0, s0 ∈ stands x ∧ s0.Place = 0 ∧ 0 ≤ s0.Credit := by
        by_cases q : x.Stand.Place = 0
        · exact ⟨x.Stand, by simp [stands], q, okx.c0⟩
        · have h0 := okx.p0
          have hc := hst.resolve_left q
          refine ⟨⟨0, x.Stand.Credit - 1⟩, ?_, rfl, by show 0 ≤ x.Stand.Credit - 1; omega⟩
          unfold stands
          rw [if_pos ⟨hc, by omega⟩]
          simp
      obtain ⟨s0, q1, q2, q3⟩ := first
      have hstep := Reach.step c x s0 k hr hb q1 hk
      refine .inr ⟨_, _, by omega, hstep, ?_, ?_, ?_⟩
      · show (turn w s0.Place (coin w k)).1 = _
        rw [q2, Int.zero_add]
      · show x.bought + (turn w s0.Place (coin w k)).2 = _
        rw [q2, Int.zero_add]
        rfl
      · intro q
        rw [Int.zero_add] at q
        show 1 ≤ min (s0.Credit + (turn w s0.Place (coin w k)).2) P
        rw [q2]
        have : cN w (coin w k) = (turn w 0 (coin w k)).2 := rfl
        omega
    · rcases ih.resolve_left e0 with ⟨c', x', b1, b2, b3⟩ | ⟨c', x', b1, b2, b3, b4, b5⟩
      · exact .inl ⟨c', x', by omega, b2, b3⟩
      · by_cases q : P ≤ x'.bought
        · exact .inl ⟨c', x', by omega, b2, q⟩
        · have ok' := b2.ok h hP
          have ht := turn_range h ok'.p0 ok'.p1 (show 0 ≤ coin w k by omega)
          have hstep := Reach.step c' x' x'.Stand k b2 (by omega) (by simp [stands]) hk
          have hcn := cN_nn h hs0
          refine .inr ⟨_, _, by omega, hstep, ?_, ?_, ?_⟩
          · show (turn w x'.Stand.Place (coin w k)).1 = _
            rw [b3, a2]
          · show x'.bought + (turn w x'.Stand.Place (coin w k)).2 = _
            rw [b4, a1, b3]
            omega
          · intro q'
            show 1 ≤ min (x'.Stand.Credit + (turn w x'.Stand.Place (coin w k)).2) P
            rw [a1, ← b3] at q'
            have := ok'.c0
            by_cases q2 : 1 ≤ cN w s
            · have := b5 q2
              omega
            · omega
theorem upper {w : Wheel} (h : OkW w) {one : Nat → Int} {P : Nat} (hP : 1 ≤ P ∧ P ≤ 20) (ho : ∀ k : Nat, k ≤ P → IsOne w k (one k)) : ∀ (n : Nat), n ≤ P → ∀ (c : Nat) (x : Point_), Reach w P c x → (x.Stand.Place = 0 ∨ x.Stand.Credit > 0) → (P : Int) ≤ x.bought + n →
    ∃ (c' : Nat) (x' : Point_), (c' : Int) ≤ c + F one n ∧ Reach w P c' x' ∧ (P : Int) ≤ x'.bought := by
  intro n
  induction n using Nat.strongRecOn with
  | ind n ih =>
    intro hn c x hr hst hb
    have ok := ones_ok h ho
    by_cases q : (P : Int) ≤ x.bought
    · have := F_nn ok n hn
      exact ⟨c, x, by omega, hr, q⟩
    · have hn0 : 1 ≤ n := by omega
      obtain ⟨k, k1, k2, k3⟩ := F_eq one hn0
      have hone := ho k (by omega)
      have hpos := hone.pos h (by omega)
      rcases seg h (P := (P : Int)) (by omega) hr hst (by omega) hone.rep with e | ⟨c', x', b1, b2, b3⟩ | ⟨c', x', b1, b2, b3, b4, b5⟩
      · omega
      · have := F_nn ok (n - k) (by omega)
        exact ⟨c', x', by omega, b2, b3⟩
      · have hc := hone.cnt
        obtain ⟨c2, x2, d1, d2, d3⟩ := ih (n - k) (by omega) (by omega) c' x' b2 (.inr (by have := b5 (by omega); omega)) (by omega)
        exact ⟨c2, x2, by omega, d2, d3⟩
theorem one_small {w : Wheel} (h : OkW w) (hc : w.Coins.length ≠ 0) (hn : w.Notches.length ≠ 0) {k : Nat} (hk : k ≤ 20) {s : Int} (hs : IsOne w k s) : s ≤ 4099 := by
  obtain ⟨t, h1, h2, h3⟩ := one_some h hc hn hk
  have := hs.least t h1 h2
  omega
theorem F_small {w : Wheel} (h : OkW w) (hc : w.Coins.length ≠ 0) (hn : w.Notches.length ≠ 0) {one : Nat → Int} {P : Nat} (hP : P ≤ 20) (ho : ∀ k : Nat, k ≤ P → IsOne w k (one k)) {n : Nat} (hn2 : n ≤ P) : 0 ≤ F one n ∧ F one n ≤ 4099 := by
  have ok := ones_ok h ho
  refine ⟨F_nn ok n hn2, ?_⟩
  by_cases e : n = 0
  · subst e; rw [F_zero]; omega
  · have h1 := F_le one (n := n) (k := n) (by omega) (by omega)
    rw [Nat.sub_self, F_zero] at h1
    have := one_small h hc hn (by omega) (ho n hn2)
    omega
theorem Cheapest_eq {n : Nat} {w : Wheel} (hl : okLen n w) (hv : valid w = true) (hn : 1000000 ≤ n) (hc : w.Coins.length ≠ 0) (hno : w.Notches.length ≠ 0) {P : Nat} (hP : 1 ≤ P ∧ P ≤ 20) {one : Nat → Int} (ho : ∀ k : Nat, k ≤ P → IsOne w k (one k)) :
    coins_Cheapest n w P = some (F one P, 0) := by
  have h := valid_ok hv
  unfold coins_Cheapest
  have hin : inR (P : Int) 1 20 = true := inR_iff.2 (by omega)
  rw [open_eq hl _ true (fun _ => by
    show (coins_Cheapest_c1 ⟨w⟩ (P : Int)).map (fun y => (y, ())) = _
    unfold coins_Cheapest_c1
    rw [within_eq, bnd_some, hin]
    rfl), bnd_some, hv]
  simp only [cond_true, bne_self_eq_false, Bool.false_eq_true, if_false]
  rw [if_neg (by simpa using hc), show ((w.Notches.length : Int) == 0) = false by simpa using hno]
  unfold coins_Cheapest_j1
  rw [if_neg (by simp)]
  obtain ⟨cm, xm, m1, m2, m3⟩ := upper h hP ho P (by omega) 0 ⟨⟨0, 0⟩, 0⟩ .start (.inl rfl) (by show (P : Int) ≤ 0 + P; omega)
  have hF := F_small h hc hno hP.2 ho (n := P) (by omega)
  have start : Lv w P 0 0 [] [[⟨⟨0, 0⟩, 0⟩]] := by
    refine ⟨by simp, fun x hx => by simp at hx, fun x hx => by simp [mhas] at hx, fun c x hx => ?_, by simp, fun c => ?_, fun c hc => by omega⟩
    · cases c with
      | zero =>
        simp at hx
        subst hx
        exact .start
      | succ c => simp at hx
    · cases c with
      | zero => simp
      | succ c => simp
  obtain ⟨r, r1, ⟨x, r2, r3⟩, r4⟩ := cheap_l1 h hn (P := (P : Int)) (by omega) m2 m3 (by omega) (cm + 1) 0 n 0 [] [[⟨⟨0, 0⟩, 0⟩]] (by omega) (by omega) (by omega) (by omega) start (by simp)
  have e1 := r4 cm xm m2 m3
  have e2 := (r2.cost h ho).le h ho
  rw [show (min x.bought (P : Int)).toNat = P by omega] at e2
  have e : (r : Int) = F one P := by omega
  rw [← e]
  exact r1
/-! ### The reference -/
theorem rep_inv {w : Wheel} (h : OkW w) {s : Int} (hs : 1 ≤ s) : Rep w s ↔ ∃ k, k < w.Coins.length ∧ coin w k ≤ s ∧ Rep w (s - coin w k) := by
  constructor
  · intro hr
    cases hr with
    | zero => omega
    | add s k h1 h2 =>
      have := h1.nn h
      exact ⟨k, h2, by omega, by rw [show s + coin w k - coin w k = s by omega]; exact h1⟩
  · rintro ⟨k, h1, h2, h3⟩
    have := Rep.add _ k h3 h1
    rw [show s - coin w k + coin w k = s by omega] at this
    exact this
/-- A list says which sums there can be. -/
def Says (w : Wheel) (out : List Int) : Prop := ∀ s : Nat, s < out.length → (out.getD s 0 = 0 ∨ out.getD s 0 = 1) ∧ (out.getD s 0 = 1 ↔ Rep w s)
theorem can_l2 {n : Nat} {w : Wheel} (h : OkW w) (hn : 100 ≤ n) (rec1 : List Int → Int → Option (List Int)) {out : List Int} (hout : out.length ≤ 5000) (h1 : 1 ≤ out.length) (hs : Says w out) :
    ∃ v : Int, ref01_can_l2 rec1 w out (out.length : Int) n 0 0 = ref01_can_j3 rec1 out (out.length : Int) v ∧ (v = 0 ∨ v = 1) ∧ (v = 1 ↔ Rep w (out.length : Int)) := by
  have h4 := h.clen
  have key : ∀ (d k m : Nat) (v : Int), k + d = w.Coins.length → d < m → (v = 0 ∨ v = 1) → (v = 1 ↔ ∃ j, j < k ∧ coin w j ≤ out.length ∧ Rep w ((out.length : Int) - coin w j)) →
      ∃ v' : Int, ref01_can_l2 rec1 w out (out.length : Int) m v (k : Int) = ref01_can_j3 rec1 out (out.length : Int) v' ∧ (v' = 0 ∨ v' = 1) ∧ (v' = 1 ↔ ∃ j, j < w.Coins.length ∧ coin w j ≤ out.length ∧ Rep w ((out.length : Int) - coin w j)) := by
    intro d
    induction d with
    | zero =>
      intro k m v hk hm hv hi
      obtain ⟨m, rfl⟩ : ∃ q, m = q + 1 := ⟨m - 1, by omega⟩
      refine ⟨v, ?_, hv, by rw [hi, show k = w.Coins.length by omega]⟩
      simp only [ref01_can_l2, ref01_can_l2_b]
      rw [if_neg (by simp; omega)]
    | succ d ih =>
      intro k m v hk hm hv hi
      obtain ⟨m, rfl⟩ : ∃ q, m = q + 1 := ⟨m - 1, by omega⟩
      have hkl : k < w.Coins.length := by omega
      have hco := kcoin h hkl
      simp only [ref01_can_l2, ref01_can_l2_b, ref01_can_j5, ref01_can_j4]
      rw [if_pos (by simp; omega), coin_idx (by omega) (by omega), bnd_some, w64_id (x := (k : Int) + 1) (by omega) (by omega), show (k : Int) + 1 = ((k + 1 : Nat) : Int) by simp]
      have no : ¬ (coin w k ≤ out.length ∧ Rep w ((out.length : Int) - coin w k)) → (v = 1 ↔ ∃ j, j < k + 1 ∧ coin w j ≤ out.length ∧ Rep w ((out.length : Int) - coin w j)) := by
        intro q
        rw [hi]
        constructor
        · rintro ⟨j, a, b⟩; exact ⟨j, by omega, b⟩
        · rintro ⟨j, a, b⟩
          by_cases e : j = k
          · subst e; exact (q b).elim
          · exact ⟨j, by omega, b⟩
      by_cases q : coin w k ≤ out.length
      · have hlt : ((out.length : Int) - coin w k).toNat < out.length := by omega
        have eidx : idx out ((out.length : Int) - coin w k) = some (out.getD ((out.length : Int) - coin w k).toNat 0) := by
          rw [show (out.length : Int) - coin w k = ((((out.length : Int) - coin w k).toNat : Nat) : Int) by omega, idx_nat hlt, Int.toNat_natCast]
          simp [hlt]
        obtain ⟨_, s2⟩ := hs _ hlt
        rw [show (((((out.length : Int) - coin w k).toNat : Nat)) : Int) = (out.length : Int) - coin w k by omega] at s2
        rw [if_pos (by simpa using q), bnd_some, w64_id (by omega) (by omega), eidx, bnd_some]
        by_cases q2 : out.getD ((out.length : Int) - coin w k).toNat 0 = 1
        · rw [if_pos (by simpa using q2)]
          exact ih (k + 1) m 1 (by omega) (by omega) (.inr rfl) ⟨fun _ => ⟨k, by omega, q, s2.1 q2⟩, fun _ => rfl⟩
        · rw [if_neg (by simpa using q2)]
          exact ih (k + 1) m v (by omega) (by omega) hv (no (fun e => q2 (s2.2 e.2)))
      · rw [if_neg (by simpa using q), if_neg (by simp)]
        exact ih (k + 1) m v (by omega) (by omega) hv (no (fun e => q e.1))
  obtain ⟨v, a, b, c⟩ := key w.Coins.length 0 n 0 (by omega) (by omega) (.inl rfl) ⟨fun e => by omega, fun ⟨j, e, _⟩ => by omega⟩
  exact ⟨v, a, b, by rw [c, rep_inv h (by omega)]⟩
theorem can_eq {n : Nat} {w : Wheel} (h : OkW w) (hn : 5000 ≤ n) : ∃ out, ref01_can n w 4100 = some out ∧ out.length = 4101 ∧ Says w out := by
  have key : ∀ (d m : Nat) (out : List Int), out.length + d = 4101 → d < m → 1 ≤ out.length → Says w out → ∃ out', ref01_can_l1 n w 4100 m out (out.length : Int) = some out' ∧ out'.length = 4101 ∧ Says w out' := by
    intro d
    induction d with
    | zero =>
      intro m out ho hm h1 hs
      obtain ⟨m, rfl⟩ : ∃ q, m = q + 1 := ⟨m - 1, by omega⟩
      refine ⟨out, ?_, by omega, hs⟩
      simp only [ref01_can_l1, ref01_can_l1_b, ref01_can_j1]
      rw [if_neg (by simp; omega)]
    | succ d ih =>
      intro m out ho hm h1 hs
      obtain ⟨m, rfl⟩ : ∃ q, m = q + 1 := ⟨m - 1, by omega⟩
      obtain ⟨v, a, b, c⟩ := can_l2 h (show 100 ≤ n by omega) (ref01_can_l1 n w 4100 m) (by omega) h1 hs
      simp only [ref01_can_l1, ref01_can_l1_b]
      rw [if_pos (by simp; omega), a]
      unfold ref01_can_j3 ref01_can_j2
      rw [app_ok (by simp; omega), bnd_some, w64_id (by omega) (by omega)]
      have := ih m (out ++ [v]) (by simp; omega) (by omega) (by simp) (fun s hs' => by
        by_cases e : s < out.length
        · rw [List.getD_eq_getElem?_getD, List.getElem?_append_left e, ← List.getD_eq_getElem?_getD]
          exact hs s e
        · simp only [List.length_append, List.length_singleton] at hs'
          have e2 : s = out.length := by omega
          subst e2
          rw [List.getD_eq_getElem?_getD, List.getElem?_append_right (Nat.le_refl _), Nat.sub_self]
          exact ⟨b, c⟩)
      rw [show (((out ++ [v]).length : Nat) : Int) = (out.length : Int) + 1 by simp] at this
      exact this
  exact key 4100 n [1] rfl (by omega) (by simp) (fun s hs => by
    have : s = 0 := by simp at hs; omega
    subst this
    exact ⟨.inr rfl, ⟨fun _ => .zero, fun _ => rfl⟩⟩)
/-- The fewest cents for each number of plays, as far as they are found. -/
structure Found (w : Wheel) (P : Nat) (cents : Int) (L : List Int) : Prop where
  l1 : 1 ≤ L.length
  l2 : L.length ≤ P + 1
  one : ∀ k : Nat, k < L.length → IsOne w k (L.getD k 0)
  all : ∀ s, Rep w s → s < cents → min (cN w s) P < L.length
theorem found_l4 {w : Wheel} (h : OkW w) (rec3 : List Int → Int → Int → Int → Option (Int × Int)) {P : Nat} (hP : 1 ≤ P ∧ P ≤ 20) {out : List Int} (hlen : out.length = 4101) (hs : Says w out) {c : Nat} (hc : c < 4101) (h1 : 1 ≤ c) (v25 : Int) (r32 : Int × Int) (hb : v25 + r32.2 = cN w c) (hb1 : -1000 ≤ v25 ∧ v25 ≤ 100000) (hb2 : -1000 ≤ r32.2 ∧ r32.2 ≤ 100000) :
    ∀ (d m : Nat) (L : List Int), L.length + d = P + 1 → d + 1 < m → 1 ≤ L.length → (∀ k : Nat, k < L.length → IsOne w k (L.getD k 0)) → (∀ s, Rep w s → s < c → min (cN w s) P < L.length) →
      ∃ L', ref01_Cheapest_l4 rec3 P out v25 (c : Int) r32 m L = rec3 L' r32.1 (cN w c) (c + 1 : Nat) ∧ Found w P (c + 1 : Nat) L' := by
  have hcn := cN_nn h (s := (c : Int)) (by omega)
  have hclt : c < out.length := by omega
  have eidx : idx out (c : Int) = some (out.getD c 0) := by rw [idx_nat hclt]; simp [hclt]
  obtain ⟨s1, s2⟩ := hs c hclt
  have fin : ∀ L : List Int, L.length ≤ P + 1 → 1 ≤ L.length → (∀ k : Nat, k < L.length → IsOne w k (L.getD k 0)) → (∀ s, Rep w s → s < c → min (cN w s) P < L.length) → (Rep w c → min (cN w c) P < L.length) → Found w P (c + 1 : Nat) L := by
    intro L a b o al q
    refine ⟨b, a, o, fun s hr hlt => ?_⟩
    by_cases e : s = c
    · subst e; exact q hr
    · exact al s hr (by omega)
  intro d
  induction d with
  | zero =>
    intro m L hL hm hL1 ho hall
    obtain ⟨m, rfl⟩ : ∃ q, m = q + 1 := ⟨m - 1, by omega⟩
    refine ⟨L, ?_, fin L (by omega) hL1 ho hall (fun _ => by omega)⟩
    simp only [ref01_Cheapest_l4, ref01_Cheapest_l4_b, ref01_Cheapest_j8, ref01_Cheapest_j7]
    rw [eidx, bnd_some, w64_id (x := v25 + _) (by omega) (by omega), w64_id (x := (c : Int) + 1) (by omega) (by omega), hb, show decide ((L.length : Int) ≤ min (cN w c) P) = false by simp; omega]
    by_cases q : out.getD c 0 = 1
    · rw [if_pos (by simpa using q), if_neg (by simp)]; rfl
    · rw [if_neg (by simpa using q), if_neg (by simp)]; rfl
  | succ d ih =>
    intro m L hL hm hL1 ho hall
    obtain ⟨m, rfl⟩ : ∃ q, m = q + 1 := ⟨m - 1, by omega⟩
    simp only [ref01_Cheapest_l4, ref01_Cheapest_l4_b, ref01_Cheapest_j8, ref01_Cheapest_j7]
    rw [eidx, bnd_some, w64_id (x := v25 + _) (by omega) (by omega), w64_id (x := (c : Int) + 1) (by omega) (by omega), hb]
    by_cases q : out.getD c 0 = 1
    · rw [if_pos (by simpa using q)]
      have hrep := s2.1 q
      by_cases q2 : (L.length : Int) ≤ min (cN w c) P
      · rw [if_pos (by simpa using q2), app_ok (by simp; omega), bnd_some]
        have hnew : IsOne w (L.length : Int) c := ⟨hrep, by omega, fun s' hr hc' => by
          rcases Int.lt_or_le s' c with e | e
          · have := hall s' hr e; omega
          · exact e⟩
        exact ih m (L ++ [(c : Int)]) (by simp; omega) (by omega) (by simp) (fun k hk => by
          by_cases e : k < L.length
          · rw [List.getD_eq_getElem?_getD, List.getElem?_append_left e, ← List.getD_eq_getElem?_getD]
            exact ho k e
          · simp only [List.length_append, List.length_singleton] at hk
            have e2 : k = L.length := by omega
            subst e2
            rw [List.getD_eq_getElem?_getD, List.getElem?_append_right (Nat.le_refl _), Nat.sub_self]
            exact hnew) (fun s hr hlt => by have := hall s hr hlt; simp; omega)
      · rw [if_neg (by simpa using q2)]
        exact ⟨L, rfl, fin L (by omega) hL1 ho hall (fun _ => by omega)⟩
    · rw [if_neg (by simpa using q), if_neg (by simp)]
      exact ⟨L, rfl, fin L (by omega) hL1 ho hall (fun hr => (q (s2.2 hr)).elim)⟩
theorem found_l3 {n : Nat} {w : Wheel} (h : OkW w) (hc0 : w.Coins.length ≠ 0) (hn0 : w.Notches.length ≠ 0) (hn : 5000 ≤ n) {P : Nat} (hP : 1 ≤ P ∧ P ≤ 20) {out : List Int} (hlen : out.length = 4101) (hs : Says w out) :
    ∀ (d c m : Nat) (L : List Int), c + d = 4101 → d < m → 1 ≤ c → Found w P c L →
      ∃ L', ref01_Cheapest_l3 n w P out m L (turn w 0 ((c : Int) - 1)).1 (cN w ((c : Int) - 1)) c = ref01_Cheapest_j2 n P L' ∧ L'.length = P + 1 ∧ ∀ k : Nat, k ≤ P → IsOne w k (L'.getD k 0) := by
  intro d
  induction d with
  | zero =>
    intro c m L hc hm h1 hf
    obtain ⟨m, rfl⟩ : ∃ q, m = q + 1 := ⟨m - 1, by omega⟩
    obtain ⟨s, a1, a2, a3⟩ := one_some h hc0 hn0 hP.2
    have := hf.all s a1 (by omega)
    have := hf.l2
    refine ⟨L, ?_, by omega, fun k hk => hf.one k (by omega)⟩
    simp only [ref01_Cheapest_l3, ref01_Cheapest_l3_b, ref01_Cheapest_j6]
    rw [if_neg (by simp; omega), if_neg (by simp)]
  | succ d ih =>
    intro c m L hc hm h1 hf
    obtain ⟨m, rfl⟩ : ∃ q, m = q + 1 := ⟨m - 1, by omega⟩
    have f1 := hf.l1
    have f2 := hf.l2
    simp only [ref01_Cheapest_l3, ref01_Cheapest_l3_b, ref01_Cheapest_j6]
    rw [if_pos (by simp; omega)]
    by_cases q : (L.length : Int) ≤ P
    · rw [if_pos (by simpa using q)]
      have hp := place_range h (s := (c : Int) - 1) (by omega)
      obtain ⟨b1, b2⟩ := cN_add h (s := (c : Int) - 1) (c := 1) (by omega) (by omega)
      rw [show (c : Int) - 1 + 1 = c by omega] at b1 b2
      have hcn := cN_nn h (s := (c : Int) - 1) (by omega)
      have ht := turn_range h hp.1 hp.2 (show (0 : Int) ≤ 1 by omega)
      rw [Put_turn h (by omega) hp.1 hp.2 (by omega) (by omega) (by omega), bnd_some]
      obtain ⟨L', e1, e2⟩ := found_l4 h (ref01_Cheapest_l3 n w P out m) hP hlen hs (c := c) (by omega) h1 (cN w ((c : Int) - 1)) (turn w (turn w 0 ((c : Int) - 1)).1 1) b1.symm (by omega) (by omega) (P + 1 - L.length) n L (by omega) (by omega) f1 hf.one hf.all
      rw [e1, ← b2]
      have := ih (c + 1) m L' (by omega) (by omega) (by omega) e2
      rw [show ((c + 1 : Nat) : Int) - 1 = c by omega] at this
      exact this
    · rw [if_neg (by simpa using q)]
      exact ⟨L, rfl, by omega, fun k hk => hf.one k (by omega)⟩
theorem getD_out {l : List Int} {k : Nat} (h : l.length ≤ k) : l.getD k 0 = 0 := by simp [h]
theorem getD_in {l : List Int} {k : Nat} (h : k < l.length) : l[k] = l.getD k 0 := by simp [h]
theorem best_l2 {n : Nat} {P : Nat} (hP : P ≤ 20) (hn : 100 ≤ n) (rec1 : List Int → Int → Option (Int × Int)) {L best : List Int} (hL : L.length = P + 1) {c : Nat} (hc : c ≤ P) (h1 : 1 ≤ c) (hbl : best.length = c) (hs : ∀ k : Nat, 0 ≤ L.getD k 0 ∧ L.getD k 0 ≤ 5000) (hs2 : ∀ k : Nat, 0 ≤ best.getD k 0 ∧ best.getD k 0 ≤ 5000) (m0 : Int) (hm0 : 0 ≤ m0 ∧ m0 ≤ 5000) :
    ref01_Cheapest_l2 rec1 L best c n m0 1 = ref01_Cheapest_j5 rec1 best c (minF (fun k => L.getD k 0) best c (c - 1) 1 m0) := by
  have key : ∀ (d k m : Nat) (v : Int), k + d = c → 1 ≤ k → d < m → 0 ≤ v → v ≤ 5000 → ref01_Cheapest_l2 rec1 L best c m v (k : Int) = ref01_Cheapest_j5 rec1 best c (minF (fun k => L.getD k 0) best c d k v) := by
    intro d
    induction d with
    | zero =>
      intro k m v hk h1 hm _ _
      obtain ⟨m, rfl⟩ : ∃ q, m = q + 1 := ⟨m - 1, by omega⟩
      simp only [ref01_Cheapest_l2, ref01_Cheapest_l2_b, minF]
      rw [if_neg (by simp; omega)]
    | succ d ih =>
      intro k m v hk h1 hm v0 v1
      obtain ⟨m, rfl⟩ : ∃ q, m = q + 1 := ⟨m - 1, by omega⟩
      have hk1 : k < L.length := by omega
      have hk2 : c - k < best.length := by omega
      have a := hs k
      have b := hs2 (c - k)
      have e1 : L[k] = L.getD k 0 := by simp [hk1]
      have e2 : best[c - k] = best.getD (c - k) 0 := by simp [hk2]
      simp only [ref01_Cheapest_l2, ref01_Cheapest_l2_b, minF]
      rw [if_pos (by simp; omega), idx_nat hk1, bnd_some, show w64 ((c : Int) - (k : Int)) = ((c - k : Nat) : Int) by rw [w64_id (by omega) (by omega)]; omega, idx_nat hk2, bnd_some, e1, e2, w64_id (x := L.getD k 0 + _) (by omega) (by omega), w64_id (x := (k : Int) + 1) (by omega) (by omega)]
      exact ih (k + 1) m (min v (L.getD k 0 + best.getD (c - k) 0)) (by omega) (by omega) (by omega) (by omega) (by omega)
  exact key (c - 1) 1 n m0 (by omega) (by omega) (by omega) hm0.1 hm0.2
theorem best_l1 {n : Nat} {w : Wheel} (h : OkW w) (hc0 : w.Coins.length ≠ 0) (hn0 : w.Notches.length ≠ 0) (hn : 5000 ≤ n) {P : Nat} (hP : 1 ≤ P ∧ P ≤ 20) {L : List Int} (hL : L.length = P + 1) (ho : ∀ k : Nat, k ≤ P → IsOne w k (L.getD k 0)) :
    ref01_Cheapest_j2 n P L = some (F (fun k => L.getD k 0) P, 0) := by
  have sm : ∀ k : Nat, 0 ≤ L.getD k 0 ∧ L.getD k 0 ≤ 5000 := fun k => by
    by_cases e : k ≤ P
    · have := one_small h hc0 hn0 (by omega) (ho k e)
      have := (ho k e).rep.nn h
      omega
    · rw [getD_out (by omega)]
      omega
  have sm2 : ∀ i : Nat, i ≤ P → ∀ k : Nat, 0 ≤ (bestF (fun k => L.getD k 0) i).getD k 0 ∧ (bestF (fun k => L.getD k 0) i).getD k 0 ≤ 5000 := fun i hi k => by
    by_cases e : k ≤ i
    · rw [bestF_getD _ i k e]
      have := F_small h hc0 hn0 hP.2 (one := fun k => L.getD k 0) ho (n := k) (by omega)
      omega
    · rw [getD_out (by rw [bestF_len]; omega)]
      omega
  have key : ∀ (d i m : Nat), i + d = P → d < m → ref01_Cheapest_l1 n P L m (bestF (fun k => L.getD k 0) i) ((i + 1 : Nat) : Int) = some (F (fun k => L.getD k 0) P, 0) := by
    intro d
    induction d with
    | zero =>
      intro i m hi hm
      obtain ⟨m, rfl⟩ : ∃ q, m = q + 1 := ⟨m - 1, by omega⟩
      have hbl := bestF_len (fun k => L.getD k 0) i
      have e : i = P := by omega
      subst e
      simp only [ref01_Cheapest_l1, ref01_Cheapest_l1_b, ref01_Cheapest_j3]
      rw [if_neg (by simp; omega), idx_nat (by omega), bnd_some]
      have : (bestF (fun k => L.getD k 0) i)[i]'(by omega) = F (fun k => L.getD k 0) i := by
        rw [← bestF_getD (fun k => L.getD k 0) i i (Nat.le_refl i)]
        exact getD_in (by omega)
      rw [this]
    | succ d ih =>
      intro i m hi hm
      obtain ⟨m, rfl⟩ : ∃ q, m = q + 1 := ⟨m - 1, by omega⟩
      have hbl := bestF_len (fun k => L.getD k 0) i
      have hk1 : i + 1 < L.length := by omega
      have e1 : L[i + 1] = L.getD (i + 1) 0 := by simp [hk1]
      simp only [ref01_Cheapest_l1, ref01_Cheapest_l1_b]
      rw [if_pos (by simp; omega), idx_nat hk1, bnd_some, e1, best_l2 hP.2 (by omega) _ hL (c := i + 1) (by omega) (by omega) hbl sm (sm2 i (by omega)) _ (sm (i + 1))]
      unfold ref01_Cheapest_j5 ref01_Cheapest_j4
      rw [app_ok (by rw [List.length_singleton]; omega), bnd_some, w64_id (by omega) (by omega)]
      have := ih (i + 1) m (by omega) (by omega)
      rw [show ((i + 1 + 1 : Nat) : Int) = ((i + 1 : Nat) : Int) + 1 by simp] at this
      exact this
  exact key P 0 n (by omega) (by omega)
theorem rCheapest_eq {n : Nat} {w : Wheel} (hl : okLen n w) (hv : valid w = true) (hn : 5000 ≤ n) (hc : w.Coins.length ≠ 0) (hno : w.Notches.length ≠ 0) {P : Nat} (hP : 1 ≤ P ∧ P ≤ 20) : ∃ one : Nat → Int, (∀ k : Nat, k ≤ P → IsOne w k (one k)) ∧ ref01_Cheapest n w P = some (F one P, 0) := by
  have h := valid_ok hv
  have hin : inR (P : Int) 1 20 = true := inR_iff.2 (by omega)
  obtain ⟨out, c1, c2, c3⟩ := can_eq h (n := n) hn
  have e0 := turn_zero h
  obtain ⟨L, l1, l2, l3⟩ := found_l3 h hc hno hn hP c2 c3 4100 1 n [0] (by omega) (by omega) (by omega) ⟨by simp, by simp, fun k hk => by
    have : k = 0 := by simp at hk; omega
    subst this
    exact ⟨.zero, by rw [show ([0] : List Int).getD 0 0 = 0 from rfl, cN_zero h]; simp, fun s' hr _ => hr.nn h⟩, fun s hr hlt => by
    have := hr.nn h
    have e : s = 0 := by omega
    subst e
    rw [cN_zero h]
    simp
    omega⟩
  refine ⟨fun k => L.getD k 0, l3, ?_⟩
  unfold ref01_Cheapest
  rw [rCheck_eq hl, bnd_some, hv]
  simp only [cond_true, bne_self_eq_false, Bool.false_eq_true, if_false]
  rw [Within_eq, bnd_some, hin]
  simp only [Bool.not_true, Bool.false_eq_true, if_false]
  rw [if_neg (by simpa using hc), show ((w.Notches.length : Int) == 0) = false by simpa using hno]
  unfold ref01_Cheapest_j1
  rw [if_neg (by simp), c1, bnd_some]
  rw [show ((1 : Nat) : Int) - 1 = 0 by simp, e0, cN_zero h] at l1
  rw [show ref01_Cheapest_l3 n w P out n [0] 0 0 1 = _ from l1]
  exact best_l1 h hc hno hn hP l2 l3
theorem worksM : law01_works 1000000 = some true := by decide +kernel
/-- Where Cheapest has no answer. -/
theorem cheap_no {n : Nat} {w : Wheel} (hl : okLen n w) {p : Int} (hno : ¬ (valid w = true ∧ inR p 1 20 = true ∧ w.Coins.length ≠ 0 ∧ w.Notches.length ≠ 0)) :
    ∃ e : Int, coins_Cheapest n w p = some (0, e) ∧ ref01_Cheapest n w p = some (0, e) ∧ (valid w = true → inR p 1 20 = true → e = 3) := by
  unfold coins_Cheapest ref01_Cheapest
  rw [open_eq hl _ (inR p 1 20) (fun _ => by
    show (coins_Cheapest_c1 ⟨w⟩ p).map (fun y => (y, ())) = _
    unfold coins_Cheapest_c1
    rw [within_eq, bnd_some]
    rfl), bnd_some, rCheck_eq hl, bnd_some]
  cases hv : valid w with
  | false => exact ⟨10, rfl, rfl, fun q => by cases q⟩
  | true =>
    simp only [cond_true, bne_self_eq_false, Bool.false_eq_true, if_false]
    rw [Within_eq, bnd_some]
    cases hr : inR p 1 20 with
    | false => exact ⟨1, rfl, rfl, fun _ q => by cases q⟩
    | true =>
      simp only [cond_true, bne_self_eq_false, Bool.not_true, Bool.false_eq_true, if_false]
      refine ⟨3, ?_, ?_, fun _ _ => rfl⟩
      · by_cases q : w.Coins.length = 0
        · rw [if_pos (by simpa using q)]; rfl
        · rw [if_neg (by simpa using q)]
          have q2 : w.Notches.length = 0 := Classical.byContradiction fun q2 => hno ⟨hv, hr, q, q2⟩
          rw [show ((w.Notches.length : Int) == 0) = true by simpa using q2]; rfl
      · by_cases q : w.Coins.length = 0
        · rw [if_pos (by simpa using q)]; rfl
        · rw [if_neg (by simpa using q)]
          have q2 : w.Notches.length = 0 := Classical.byContradiction fun q2 => hno ⟨hv, hr, q, q2⟩
          rw [show ((w.Notches.length : Int) == 0) = true by simpa using q2]; rfl
theorem law_CoinsCheapest (w : Wheel) (p : Int) : law01_CoinsCheapest 1000000 w p = some true := by
  unfold law01_CoinsCheapest
  rw [far_eq, bnd_some]
  cases hf : farW w with
  | true => rw [if_pos rfl, worksM]; rfl
  | false =>
  have hl := farW_len hf (n := 1000000) (by omega)
  rw [if_neg (by simp), Copy_eq hl, bnd_some]
  have both : ∃ r, coins_Cheapest 1000000 w p = some r ∧ ref01_Cheapest 1000000 w p = some r := by
    by_cases q : valid w = true ∧ inR p 1 20 = true ∧ w.Coins.length ≠ 0 ∧ w.Notches.length ≠ 0
    · obtain ⟨hv, hr, hc, hn⟩ := q
      have hr := inR_iff.1 hr
      obtain ⟨P, rfl⟩ : ∃ P : Nat, p = P := ⟨p.toNat, by omega⟩
      obtain ⟨one, o1, o2⟩ := rCheapest_eq hl hv (by omega) hc hn (P := P) (by omega)
      exact ⟨_, Cheapest_eq hl hv (by omega) hc hn (by omega) o1, o2⟩
    · obtain ⟨e, e1, e2, _⟩ := cheap_no hl q
      exact ⟨_, e1, e2⟩
  obtain ⟨r, r1, r2⟩ := both
  rw [r1, bnd_some, r2, bnd_some, if_pos (by simp), if_pos (by simp), same_self hl, bnd_some, if_pos rfl, worksM]
  rfl
end Go.Law
