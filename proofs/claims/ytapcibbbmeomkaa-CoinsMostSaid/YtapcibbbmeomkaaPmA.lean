/-
  Plain laws.
  Conditions: none.
-/
import Derived.Test.YtapcibbbmeomkaaMd
import Derived.Test.YtapcibbbmeomkaaPlA
import Derived.Test.YtapcibbbmeomkaaAmSd
set_option linter.all false
namespace Go.Law
open Go Go.AM
theorem works01 : law01_works 20000 = some true := by decide +kernel
theorem loopL {α S R : Type} (F : Nat → Int → S → Option R) (xs : List α) (spec : List α → S → Option R) (hl : xs.length < 1048576) (h0 : ∀ m s, F (m + 1) (xs.length : Int) s = spec [] s)
    (hs : ∀ m (i : Nat) x l s, idx xs (i : Int) = some x → (i : Int) < (xs.length : Int) → i < 1048576 → xs.drop (i + 1) = l → (∀ s', F m (w64 ((i : Int) + 1)) s' = spec l s') → F (m + 1) (i : Int) s = spec (x :: l) s) :
    ∀ (l : List α) (i m : Nat) (s : S), i ≤ xs.length → xs.drop i = l → l.length < m → F m (i : Int) s = spec l s := by
  intro l
  induction l with
  | nil =>
    intro i m s hi hd hm
    obtain ⟨m, rfl⟩ : ∃ k, m = k + 1 := ⟨m - 1, by omega⟩
    have : i = xs.length := by have := List.drop_eq_nil_iff.1 hd; omega
    subst this
    exact h0 m s
  | cons x l ih =>
    intro i m s hi hd hm
    obtain ⟨m, rfl⟩ : ∃ k, m = k + 1 := ⟨m - 1, by omega⟩
    simp only [List.length_cons] at hm
    have hlt : i < xs.length := by
      rcases Nat.lt_or_ge i xs.length with h | h
      · exact h
      · rw [List.drop_eq_nil_of_le h] at hd; cases hd
    rw [List.drop_eq_getElem_cons hlt] at hd
    injection hd with h1 h2
    refine hs m i x l s (by rw [idx_nat hlt, h1]) (by omega) (by omega) h2 fun s' => ?_
    rw [w64_id (by omega) (by omega)]
    exact ih (i + 1) m s' (by omega) h2 (by omega)
theorem loopL0 {α S R : Type} {F : Nat → Int → S → Option R} {xs : List α} {spec : List α → S → Option R} (hl : xs.length < 1048576) {n : Nat} (hn : xs.length < n) (s : S) (h0 : ∀ m s, F (m + 1) (xs.length : Int) s = spec [] s)
    (hs : ∀ m (i : Nat) x l s, idx xs (i : Int) = some x → (i : Int) < (xs.length : Int) → i < 1048576 → xs.drop (i + 1) = l → (∀ s', F m (w64 ((i : Int) + 1)) s' = spec l s') → F (m + 1) (i : Int) s = spec (x :: l) s) :
    F n 0 s = spec xs s := loopL F xs spec hl h0 hs xs 0 n s (by omega) rfl hn
theorem loopI {α S R : Type} (F : Nat → Int → S → Option R) (xs : List α) (spec : List α → S → Option R) (I : List α → S → Prop) (hl : xs.length < 1048576) (h0 : ∀ m s, I [] s → F (m + 1) (xs.length : Int) s = spec [] s)
    (hs : ∀ m (i : Nat) x l s, I (x :: l) s → idx xs (i : Int) = some x → (i : Int) < (xs.length : Int) → i < 1048576 → xs.drop (i + 1) = l → (∀ s', I l s' → F m (w64 ((i : Int) + 1)) s' = spec l s') → F (m + 1) (i : Int) s = spec (x :: l) s) :
    ∀ (l : List α) (i m : Nat) (s : S), i ≤ xs.length → xs.drop i = l → l.length < m → I l s → F m (i : Int) s = spec l s := by
  intro l
  induction l with
  | nil =>
    intro i m s hi hd hm hI
    obtain ⟨m, rfl⟩ : ∃ k, m = k + 1 := ⟨m - 1, by omega⟩
    have : i = xs.length := by have := List.drop_eq_nil_iff.1 hd; omega
    subst this
    exact h0 m s hI
  | cons x l ih =>
    intro i m s hi hd hm hI
    obtain ⟨m, rfl⟩ : ∃ k, m = k + 1 := ⟨m - 1, by omega⟩
    simp only [List.length_cons] at hm
    have hlt : i < xs.length := by
      rcases Nat.lt_or_ge i xs.length with h | h
      · exact h
      · rw [List.drop_eq_nil_of_le h] at hd; cases hd
    rw [List.drop_eq_getElem_cons hlt] at hd
    injection hd with h1 h2
    refine hs m i x l s hI (by rw [idx_nat hlt, h1]) (by omega) (by omega) h2 fun s' hI' => ?_
    rw [w64_id (by omega) (by omega)]
    exact ih (i + 1) m s' (by omega) h2 (by omega) hI'
theorem loopR {S R : Type} (F : Nat → Int → S → Option R) (b : Nat) (spec : Nat → S → Option R) (hb : b < 1048576) (h0 : ∀ m s, F (m + 1) (b : Int) s = spec b s)
    (hs : ∀ m (i : Nat) s, i < b → (∀ s', F m (w64 ((i : Int) + 1)) s' = spec (i + 1) s') → F (m + 1) (i : Int) s = spec i s) :
    ∀ (d i m : Nat) (s : S), d = b - i → i ≤ b → d < m → F m (i : Int) s = spec i s := by
  intro d
  induction d with
  | zero =>
    intro i m s hd hi hm
    obtain ⟨m, rfl⟩ : ∃ k, m = k + 1 := ⟨m - 1, by omega⟩
    have : i = b := by omega
    subst this
    exact h0 m s
  | succ d ih =>
    intro i m s hd hi hm
    obtain ⟨m, rfl⟩ : ∃ k, m = k + 1 := ⟨m - 1, by omega⟩
    refine hs m i s (by omega) fun s' => ?_
    rw [w64_id (by omega) (by omega)]
    exact ih (i + 1) m s' (by omega) (by omega) (by omega)
theorem bnd_some {α β : Type} (a : α) (f : α → Option β) : Option.bind (some a) f = f a := rfl
theorem within_eq (a b c : Int) : coins_within a b c = some (inR a b c) := by
  unfold coins_within coins_within_j1 inR
  by_cases h : b ≤ a <;> simp [h]
theorem Within_eq (a b c : Int) : ref01_Within a b c = some (inR a b c) := by
  unfold ref01_Within ref01_Within_j1 inR
  by_cases h : b ≤ a <;> simp [h]
def rise (lo hi : Int) : Option Int → List Int → Bool
  | _, [] => true
  | prev, x :: l => inR x lo hi && (match prev with | none => true | some y => decide (y < x)) && rise lo hi (some x) l
theorem nil_or_last (pre : List Int) : pre = [] ∨ ∃ q y, pre = q ++ [y] := by
  rcases List.eq_nil_or_concat pre with h | ⟨q, y, h⟩
  · exact .inl h
  · exact .inr ⟨q, y, by simpa using h⟩
theorem idx_last (q : List Int) (y : Int) (l : List Int) (h : (q ++ [y] ++ l).length < 1048576) : idx (q ++ [y] ++ l) (w64 (((q ++ [y]).length : Int) - 1)) = some y := by
  simp at h
  rw [w64_id (by simp <;> omega) (by simp <;> omega), show (((q ++ [y]).length : Int) - 1) = (q.length : Int) by simp, show q ++ [y] ++ l = q ++ y :: l by simp, idx_mid]
theorem Rising_l (lo hi : Int) : ∀ (l pre : List Int) (m : Nat), (pre ++ l).length < 1048576 → l.length < m →
    ref01_Rising_l1 (pre ++ l) lo hi m (pre.length : Int) = some (rise lo hi pre.getLast? l) := by
  intro l
  induction l with
  | nil =>
    intro pre m hs hm
    obtain ⟨m, rfl⟩ : ∃ k, m = k + 1 := ⟨m - 1, by omega⟩
    simp [ref01_Rising_l1, ref01_Rising_l1_b, ref01_Rising_j1, rise]
  | cons x l ih =>
    intro pre m hs hm
    obtain ⟨m, rfl⟩ : ∃ k, m = k + 1 := ⟨m - 1, by omega⟩
    have h := ih (pre ++ [x]) m (by simpa using hs) (by simp at hm; omega)
    rw [show (((pre ++ [x]).length : Nat) : Int) = (pre.length : Int) + 1 by simp, List.getLast?_concat, show pre ++ [x] ++ l = pre ++ x :: l by simp] at h
    simp at hs hm
    simp only [ref01_Rising_l1, ref01_Rising_l1_b]
    rw [if_pos (by simp <;> omega), idx_mid]
    simp only [Option.bind_some, Within_eq, rise]
    by_cases hr : inR x lo hi = true
    · rw [if_neg (by simp [hr])]
      rcases nil_or_last pre with rfl | ⟨q, y, rfl⟩
      · rw [if_neg (by simp)]
        simp only [ref01_Rising_j2]
        rw [if_neg (by simp), w64_id (by simp) (by simp), h]
        simp [hr]
      · rw [if_pos (by simp <;> omega), idx_last q y (x :: l) (by simp at hs ⊢; omega)]
        simp only [Option.bind_some, ref01_Rising_j2, List.getLast?_concat]
        by_cases hb : x ≤ y
        · rw [if_pos (by simpa using hb)]
          simp [hr, show ¬ y < x by omega]
        · rw [if_neg (by simpa using hb), w64_id (by omega) (by omega), h]
          simp [hr, show y < x by omega]
    · have hr' : inR x lo hi = false := by simpa using hr
      rw [if_pos (by simp [hr'])]
      simp [ref01_Rising_j2, hr']
theorem Rising_eq {n : Nat} (l : List Int) (lo hi : Int) (hs : l.length < 1048576) (hn : l.length < n) : ref01_Rising n l lo hi = some (rise lo hi none l) := Rising_l lo hi l [] n (by simpa using hs) hn
theorem rising_l (many most : Int) : ∀ (l pre : List Int) (m : Nat), (pre ++ l).length < 1048576 → l.length < m →
    coins_rising_l1 (pre ++ l) many most m (pre.length : Int) = some (rise 1 most pre.getLast? l && decide (((pre ++ l).length : Int) ≤ many)) := by
  intro l
  induction l with
  | nil =>
    intro pre m hs hm
    obtain ⟨m, rfl⟩ : ∃ k, m = k + 1 := ⟨m - 1, by omega⟩
    simp [coins_rising_l1, coins_rising_l1_b, coins_rising_j1, rise]
  | cons x l ih =>
    intro pre m hs hm
    obtain ⟨m, rfl⟩ : ∃ k, m = k + 1 := ⟨m - 1, by omega⟩
    have h := ih (pre ++ [x]) m (by simpa using hs) (by simp at hm; omega)
    rw [show (((pre ++ [x]).length : Nat) : Int) = (pre.length : Int) + 1 by simp, List.getLast?_concat, show pre ++ [x] ++ l = pre ++ x :: l by simp] at h
    simp at hs hm
    simp only [coins_rising_l1, coins_rising_l1_b]
    rw [if_pos (by simp <;> omega), idx_mid]
    simp only [Option.bind_some, within_eq, rise]
    by_cases hr : inR x 1 most = true
    · rw [if_neg (by simp [hr])]
      rcases nil_or_last pre with rfl | ⟨q, y, rfl⟩
      · rw [if_neg (by simp)]
        simp only [coins_rising_j2]
        rw [if_neg (by simp), w64_id (by simp) (by simp), h]
        simp [hr]
      · rw [if_pos (by simp <;> omega), idx_last q y (x :: l) (by simp at hs ⊢; omega)]
        simp only [Option.bind_some, coins_rising_j2, List.getLast?_concat]
        by_cases hb : x ≤ y
        · rw [if_pos (by simpa using hb)]
          simp [hr, show ¬ y < x by omega]
        · rw [if_neg (by simpa using hb), w64_id (by omega) (by omega), h]
          simp [hr, show y < x by omega]
    · have hr' : inR x 1 most = false := by simpa using hr
      rw [if_pos (by simp [hr'])]
      simp [coins_rising_j2, hr']
theorem rising_eq {n : Nat} (l : List Int) (many most : Int) (hs : l.length < 1048576) (hn : l.length < n) : coins_rising n l many most = some (rise 1 most none l && decide ((l.length : Int) ≤ many)) := rising_l many most l [] n (by simpa using hs) hn
def valid (w : Wheel) : Bool := inR w.Round 1 200 && (rise 1 w.Round none w.Notches && decide ((w.Notches.length : Int) ≤ 12)) && (rise 1 100 none w.Coins && decide ((w.Coins.length : Int) ≤ 4))
def okLen (n : Nat) (w : Wheel) : Prop := w.Notches.length < 1048576 ∧ w.Coins.length < 1048576 ∧ w.Notches.length < n ∧ w.Coins.length < n
theorem Check_eq {n : Nat} {w : Wheel} (h : okLen n w) : coins_Check n w = some (cond (valid w) 0 10) := by
  obtain ⟨h1, h2, h3, h4⟩ := h
  unfold coins_Check coins_Check_j1 valid
  rw [within_eq, bnd_some, rising_eq _ _ _ h1 h3, rising_eq _ _ _ h2 h4, bnd_some, bnd_some]
  cases inR w.Round 1 200 <;> cases (rise 1 w.Round none w.Notches && decide ((w.Notches.length : Int) ≤ 12)) <;> cases (rise 1 100 none w.Coins && decide ((w.Coins.length : Int) ≤ 4)) <;> rfl
theorem rCheck_eq {n : Nat} {w : Wheel} (h : okLen n w) : ref01_Check n w = some (cond (valid w) 0 10) := by
  obtain ⟨h1, h2, h3, h4⟩ := h
  unfold ref01_Check ref01_Check_j1 valid
  rw [Within_eq, bnd_some, Rising_eq _ _ _ h1 h3, Rising_eq _ _ _ h2 h4, bnd_some, bnd_some]
  by_cases q1 : (w.Notches.length : Int) ≤ 12
  · have e1 : decide ((w.Notches.length : Int) > 12) = false := by simpa using q1
    rw [e1]
    by_cases q2 : (w.Coins.length : Int) ≤ 4
    · have e2 : decide ((w.Coins.length : Int) > 4) = false := by simpa using q2
      rw [e2]
      simp only [q1, q2, decide_true, Bool.and_true]
      cases inR w.Round 1 200 <;> cases rise 1 w.Round none w.Notches <;> cases rise 1 100 none w.Coins <;> rfl
    · have e2 : decide ((w.Coins.length : Int) > 4) = true := by simp; omega
      rw [e2]
      simp only [q2, decide_false, Bool.and_false]
      cases inR w.Round 1 200 <;> cases rise 1 w.Round none w.Notches <;> rfl
  · have e1 : decide ((w.Notches.length : Int) > 12) = true := by simp; omega
    rw [e1]
    simp only [q1, decide_false, Bool.and_false, Bool.false_and]
    cases inR w.Round 1 200 <;> rfl
theorem rise_mem {lo hi : Int} : ∀ {l : List Int} {p : Option Int}, rise lo hi p l = true → (∀ x, x ∈ l → lo ≤ x ∧ x ≤ hi ∧ ∀ y, p = some y → y < x) ∧ l.Pairwise (· < ·)
  | [], _, _ => ⟨fun x h => by simp at h, .nil⟩
  | x :: l, p, h => by
    simp only [rise, Bool.and_eq_true] at h
    obtain ⟨⟨h1, h2⟩, h3⟩ := h
    obtain ⟨ih1, ih2⟩ := rise_mem h3
    have h1' := inR_iff.1 h1
    have hp : ∀ y, p = some y → y < x := fun y e => by subst e; simpa using h2
    refine ⟨fun z hz => ?_, List.pairwise_cons.2 ⟨fun z hz => (ih1 z hz).2.2 x rfl, ih2⟩⟩
    rcases List.mem_cons.1 hz with rfl | hz
    · exact ⟨h1'.1, h1'.2, hp⟩
    · have := ih1 z hz
      exact ⟨this.1, this.2.1, fun y e => Int.lt_trans (hp y e) (this.2.2 x rfl)⟩
structure OkW (w : Wheel) : Prop where
  r1 : 1 ≤ w.Round
  r2 : w.Round ≤ 200
  nlen : w.Notches.length ≤ 12
  clen : w.Coins.length ≤ 4
  nm : ∀ x, x ∈ w.Notches → 1 ≤ x ∧ x ≤ w.Round
  nd : w.Notches.Pairwise (· < ·)
  cm : ∀ x, x ∈ w.Coins → 1 ≤ x ∧ x ≤ 100
  cd : w.Coins.Pairwise (· < ·)
theorem valid_ok {w : Wheel} (h : valid w = true) : OkW w := by
  simp only [valid, Bool.and_eq_true, decide_eq_true_eq] at h
  obtain ⟨⟨h1, h2, h3⟩, h4, h5⟩ := h
  have h1 := inR_iff.1 h1
  obtain ⟨a1, a2⟩ := rise_mem h2
  obtain ⟨b1, b2⟩ := rise_mem h4
  exact ⟨h1.1, h1.2, by omega, by omega, fun x hx => ⟨(a1 x hx).1, (a1 x hx).2.1⟩, a2, fun x hx => ⟨(b1 x hx).1, (b1 x hx).2.1⟩, b2⟩
theorem OkW.len {w : Wheel} (h : OkW w) {n : Nat} (hn : 100 ≤ n) : okLen n w := ⟨by have := h.nlen; omega, by have := h.clen; omega, by have := h.nlen; omega, by have := h.clen; omega⟩
theorem In_eq {n : Nat} (l : List Int) (x : Int) (hs : l.length < 1048576) (hn : l.length < n) : ref01_In n l x = some (decide (x ∈ l)) := by
  have := loopL0 (F := fun m i (_ : Unit) => ref01_In_l1 l x m i) (xs := l) (spec := fun l _ => some (decide (x ∈ l))) (n := n) hs hn () (fun m s => by simp [ref01_In_l1, ref01_In_l1_b, ref01_In_j1]) (fun m i y l s hx hi _ _ hrec => by
    simp only [ref01_In_l1, ref01_In_l1_b]
    rw [if_pos (by simpa using hi), hx, bnd_some]
    by_cases h : y = x
    · rw [if_pos (by simpa using h)]
      simp [h]
    · rw [if_neg (by simpa using h), hrec ()]
      simp [Ne.symm h])
  exact this
def nx (R p : Int) : Int := if p + 1 = R then 0 else p + 1
def hit (w : Wheel) (p : Int) : Int := if p + 1 ∈ w.Notches then 1 else 0
def put (w : Wheel) : Nat → Int → Int → Int × Int
  | 0, p, c => (p, c)
  | k + 1, p, c => put w k (nx w.Round p) (c + hit w p)
theorem nx_range {R p : Int} (h0 : 0 ≤ p) (h1 : p < R) : 0 ≤ nx R p ∧ nx R p < R := by
  unfold nx
  split <;> omega
theorem hit_range (w : Wheel) (p : Int) : 0 ≤ hit w p ∧ hit w p ≤ 1 := by
  unfold hit
  split <;> omega
theorem Put_l {n : Nat} {w : Wheel} (h : OkW w) (hn : 100 ≤ n) {cents : Nat} (hc : cents < 1048576) : ∀ (k i m : Nat) (p c : Int), k = cents - i → i ≤ cents → k < m → 0 ≤ p → p < w.Round → 0 ≤ c → c ≤ i →
    ref01_Put_l1 n w cents m p c (i : Int) = some (put w k p c) := by
  have hr := h.r2
  intro k
  induction k with
  | zero =>
    intro i m p c hk hi hm hp hp' hc0 hc1
    obtain ⟨m, rfl⟩ : ∃ k, m = k + 1 := ⟨m - 1, by omega⟩
    have : i = cents := by omega
    subst this
    simp [ref01_Put_l1, ref01_Put_l1_b, ref01_Put_j1, put]
  | succ k ih =>
    intro i m p c hk hi hm hp hp' hc0 hc1
    obtain ⟨m, rfl⟩ : ∃ k, m = k + 1 := ⟨m - 1, by omega⟩
    have hx := hit_range w p
    have hy := nx_range hp hp'
    have key := ih (i + 1) m (nx w.Round p) (c + hit w p) (by omega) (by omega) (by omega) hy.1 hy.2 (by omega) (by omega)
    simp only [ref01_Put_l1, ref01_Put_l1_b]
    rw [if_pos (by simp; omega), w64_id (by omega) (by omega), In_eq _ _ (by have := h.nlen; omega) (by have := h.nlen; omega), bnd_some]
    have e1 : w64 ((i : Int) + 1) = ((i + 1 : Nat) : Int) := by rw [w64_id (by omega) (by omega)]; simp
    have e2 : w64 (c + 1) = c + 1 := w64_id (by omega) (by omega)
    simp only [ref01_Put_j3, ref01_Put_j2, e1, e2, w64_id (x := p + 1) (by omega) (by omega)]
    show _ = some (put w k (nx w.Round p) (c + hit w p))
    rw [← key]
    unfold nx hit
    by_cases q1 : p + 1 ∈ w.Notches
    · rw [if_pos (by simpa using q1), if_pos q1]
      by_cases q2 : p + 1 = w.Round
      · rw [if_pos (by simpa using q2), if_pos q2]
      · rw [if_neg (by simpa using q2), if_neg q2]
    · rw [if_neg (by simpa using q1), if_neg q1, Int.add_zero]
      by_cases q2 : p + 1 = w.Round
      · rw [if_pos (by simpa using q2), if_pos q2]
      · rw [if_neg (by simpa using q2), if_neg q2]
theorem Put_eq {n : Nat} {w : Wheel} (h : OkW w) (hn : 100 ≤ n) {p c : Int} (hp : 0 ≤ p) (hp' : p < w.Round) (hc : 0 ≤ c) (hc' : c < n) (hc2 : c < 1048576) : ref01_Put n w p c = some (put w c.toNat p 0) := by
  have := Put_l h hn (cents := c.toNat) (by omega) c.toNat 0 n p 0 (by omega) (by omega) (by omega) hp hp' (by omega) (by omega)
  rw [show ((c.toNat : Nat) : Int) = c by omega] at this
  exact this
theorem put_range {w : Wheel} (h : OkW w) : ∀ (k : Nat) (p c : Int), 0 ≤ p → p < w.Round → (0 ≤ (put w k p c).1 ∧ (put w k p c).1 < w.Round) ∧ c ≤ (put w k p c).2 ∧ (put w k p c).2 ≤ c + k
  | 0, p, c, h0, h1 => ⟨⟨h0, h1⟩, by simp [put], by simp [put]⟩
  | k + 1, p, c, h0, h1 => by
    have hy := nx_range h0 h1
    have hx := hit_range w p
    have := put_range h k (nx w.Round p) (c + hit w p) hy.1 hy.2
    simp only [put]
    omega
theorem put_add (w : Wheel) : ∀ (j k : Nat) (p c : Int), put w (j + k) p c = put w k (put w j p c).1 (put w j p c).2
  | 0, k, p, c => by simp [put]
  | j + 1, k, p, c => by
    rw [show j + 1 + k = (j + k) + 1 by omega]
    simp only [put]
    exact put_add w j k _ _
theorem ediv_succ {A R : Int} (hR : 0 < R) : (A + 1) / R = A / R + (if A % R = R - 1 then 1 else 0) := by
  have h1 := Int.mul_ediv_add_emod A R
  have h2 := Int.emod_nonneg A (show R ≠ 0 by omega)
  have h3 := Int.emod_lt_of_pos A hR
  split
  · rename_i h
    have : A + 1 = R * (A / R + 1) := by rw [Int.mul_add]; omega
    rw [this, Int.mul_ediv_cancel_left _ (by omega)]
  · rename_i h
    have : A + 1 = (A % R + 1) + R * (A / R) := by omega
    rw [this, Int.add_mul_ediv_left _ _ (by omega), Int.ediv_eq_zero_of_lt (by omega) (by omega)]
    omega
theorem emod_succ {A R : Int} (hR : 0 < R) : (A + 1) % R = nx R (A % R) := by
  have h1 := Int.mul_ediv_add_emod A R
  have h2 := Int.emod_nonneg A (show R ≠ 0 by omega)
  have h3 := Int.emod_lt_of_pos A hR
  unfold nx
  split
  · rename_i h
    have : A + 1 = R * (A / R + 1) := by rw [Int.mul_add]; omega
    rw [this, Int.mul_emod_right]
  · rename_i h
    have : A + 1 = (A % R + 1) + R * (A / R) := by omega
    rw [this, Int.add_mul_emod_self_left, Int.emod_eq_of_lt (by omega) (by omega)]
theorem emod_notch {B R m : Int} (hR : 0 < R) (h1 : 1 ≤ m) (h2 : m ≤ R) : (B - m + R) % R = R - 1 ↔ m = B % R + 1 := by
  have e1 := Int.mul_ediv_add_emod B R
  have e2 := Int.emod_nonneg B (show R ≠ 0 by omega)
  have e3 := Int.emod_lt_of_pos B hR
  by_cases h : m ≤ B % R
  · have : B - m + R = (B % R - m) + R * (B / R + 1) := by rw [Int.mul_add]; omega
    rw [this, Int.add_mul_emod_self_left, Int.emod_eq_of_lt (by omega) (by omega)]
    omega
  · have : B - m + R = (B % R - m + R) + R * (B / R) := by omega
    rw [this, Int.add_mul_emod_self_left, Int.emod_eq_of_lt (by omega) (by omega)]
    omega
def reached (R e p : Int) : List Int → Int
  | [] => 0
  | m :: l => (e - m + R) / R - (p - m + R) / R + reached R e p l
def turn (w : Wheel) (p c : Int) : Int × Int := ((p + c) % w.Round, reached w.Round (p + c) p w.Notches)
theorem reached_succ {R B p : Int} (hR : 0 < R) : ∀ (l : List Int), (∀ x, x ∈ l → 1 ≤ x ∧ x ≤ R) → l.Pairwise (· < ·) → reached R (B + 1) p l = reached R B p l + (if B % R + 1 ∈ l then 1 else 0)
  | [], _, _ => by simp [reached]
  | m :: l, h, hd => by
    have hm := h m (by simp)
    obtain ⟨d1, d2⟩ := List.pairwise_cons.1 hd
    have ih := reached_succ (B := B) (p := p) hR l (fun x hx => h x (by simp [hx])) d2
    simp only [reached]
    rw [ih, show B + 1 - m + R = (B - m + R) + 1 by omega, ediv_succ hR]
    have hn := emod_notch (B := B) hR hm.1 hm.2
    by_cases q : m = B % R + 1
    · rw [if_pos (hn.2 q), if_pos (show B % R + 1 ∈ m :: l by simp [q]), if_neg (fun hx => by have := d1 _ hx; omega)]
      omega
    · rw [if_neg (fun hx => q (hn.1 hx))]
      by_cases q2 : B % R + 1 ∈ l
      · rw [if_pos q2, if_pos (by simp [q2])]
        omega
      · rw [if_neg q2, if_neg (by simp [q2]; omega)]
        omega
theorem reached_self {R p : Int} : ∀ (l : List Int), reached R p p l = 0
  | [] => rfl
  | m :: l => by simp only [reached]; rw [reached_self l]; omega
theorem put_turn {w : Wheel} (h : OkW w) {p : Int} (h0 : 0 ≤ p) (h1 : p < w.Round) : ∀ k : Nat, put w k p 0 = turn w p k
  | 0 => by
    unfold turn
    rw [show p + ((0 : Nat) : Int) = p by simp, reached_self, Int.emod_eq_of_lt h0 h1]
    rfl
  | k + 1 => by
    have hr := h.r1
    have ih := put_turn h h0 h1 k
    rw [put_add w k 1 p 0, ih]
    unfold turn
    simp only [put]
    rw [show p + ((k + 1 : Nat) : Int) = (p + k) + 1 by simp; omega, emod_succ (by omega), reached_succ (by omega) w.Notches h.nm h.nd]
    rfl
theorem turn_range {w : Wheel} (h : OkW w) {p c : Int} (h0 : 0 ≤ p) (h1 : p < w.Round) (hc : 0 ≤ c) : (0 ≤ (turn w p c).1 ∧ (turn w p c).1 < w.Round) ∧ 0 ≤ (turn w p c).2 ∧ (turn w p c).2 ≤ c := by
  have := put_range h c.toNat p 0 h0 h1
  rw [put_turn h h0 h1, show ((c.toNat : Nat) : Int) = c by omega] at this
  omega
theorem Put_turn {n : Nat} {w : Wheel} (h : OkW w) (hn : 100 ≤ n) {p c : Int} (hp : 0 ≤ p) (hp' : p < w.Round) (hc : 0 ≤ c) (hc' : c < n) (hc2 : c < 1048576) : ref01_Put n w p c = some (turn w p c) := by
  rw [Put_eq h hn hp hp' hc hc' hc2, put_turn h hp hp', show ((c.toNat : Nat) : Int) = c by omega]
theorem reached_part {R e p : Int} (hR : 0 < R) (h : p ≤ e) : ∀ l : List Int, 0 ≤ reached R e p l
  | [] => by simp [reached]
  | m :: l => by
    have := reached_part hR h l
    have h2 := Int.ediv_le_ediv hR (show p - m + R ≤ e - m + R by omega)
    simp only [reached]
    omega
theorem turn_eq {n : Nat} {w : Wheel} (h : OkW w) (hn : 100 ≤ n) {p c : Int} (hp : 0 ≤ p) (hp' : p < w.Round) (hc : 0 ≤ c) (hc2 : c < 1048576) : coins_wheel_turn n ⟨w⟩ p c = some (turn w p c) := by
  have hr := h.r1
  have hr2 := h.r2
  have hl := h.nlen
  have hfin := turn_range h hp hp' hc
  unfold turn at hfin
  simp only at hfin
  have e0 : w64 (p + c) = p + c := w64_id (by omega) (by omega)
  have key := loopI (F := fun m i s => coins_wheel_turn_l1 ⟨w⟩ p c m s i) (xs := w.Notches) (spec := fun l s => some ((p + c) % w.Round, s + reached w.Round (p + c) p l)) (I := fun l s => 0 ≤ s ∧ s + reached w.Round (p + c) p l ≤ c ∧ ∀ x, x ∈ l → 1 ≤ x ∧ x ≤ w.Round) (by omega)
    (fun m s hI => by simp [coins_wheel_turn_l1, coins_wheel_turn_l1_b, coins_wheel_turn_j1, reached, e0, rem_nn (show 0 ≤ p + c by omega) (show 0 < w.Round by omega)])
    (fun m i x l s hI hx hi _ _ hrec => by
      obtain ⟨i1, i2, i3⟩ := hI
      have hxm := i3 x (by simp)
      simp only [reached] at i2
      have hrl := reached_part (R := w.Round) (e := p + c) (p := p) (by omega) (by omega) l
      have hd1 := Int.ediv_nonneg (show 0 ≤ p + c - x + w.Round by omega) (show 0 ≤ w.Round by omega)
      have hd2 := Int.ediv_nonneg (show 0 ≤ p - x + w.Round by omega) (show 0 ≤ w.Round by omega)
      have hd3 := Int.ediv_le_self w.Round (show 0 ≤ p + c - x + w.Round by omega)
      have hd5 := Int.ediv_le_ediv (show 0 < w.Round by omega) (show p - x + w.Round ≤ p + c - x + w.Round by omega)
      simp only [coins_wheel_turn_l1, coins_wheel_turn_l1_b]
      rw [if_pos (by simpa using hi), hx, bnd_some, e0, w64_id (x := p + c - x) (by omega) (by omega), w64_id (x := p + c - x + w.Round) (by omega) (by omega), w64_id (x := p - x) (by omega) (by omega), w64_id (x := p - x + w.Round) (by omega) (by omega),
        quo_nn (by omega) (by omega) (by omega), quo_nn (by omega) (by omega) (by omega), bnd_some, bnd_some, w64_id (x := _ - _) (by omega) (by omega), w64_id (x := s + _) (by omega) (by omega),
        hrec _ ⟨by omega, by omega, fun y hy => i3 y (by simp [hy])⟩]
      simp only [reached]
      congr 2
      omega)
    w.Notches 0 n 0 (by omega) rfl (by omega) ⟨by omega, by omega, h.nm⟩
  have key : coins_wheel_turn_l1 ⟨w⟩ p c n 0 0 = _ := key
  unfold coins_wheel_turn
  rw [key]
  unfold turn
  rw [Int.zero_add]
structure OkS (w : Wheel) (s : Stand) (b : Int) : Prop where
  p0 : 0 ≤ s.Place
  p1 : s.Place < w.Round
  c0 : 0 ≤ s.Credit
  c1 : s.Credit ≤ b
def okAct (w : Wheel) (a : Int) : Bool := inR a (-1) (w.Coins.length - 1)
def coin (w : Wheel) (a : Int) : Int := w.Coins.getD a.toNat 0
def actS (w : Wheel) (s : Stand) (a : Int) : Stand × Bool :=
  if 0 ≤ a then (⟨(turn w s.Place (coin w a)).1, s.Credit + (turn w s.Place (coin w a)).2⟩, false) else if s.Credit = 0 then (s, false) else (⟨0, s.Credit - 1⟩, true)
theorem coin_idx {w : Wheel} {a : Int} (h0 : 0 ≤ a) (h1 : a ≤ w.Coins.length - 1) : idx w.Coins a = some (coin w a) := by
  obtain ⟨k, rfl⟩ : ∃ k : Nat, a = k := ⟨a.toNat, by omega⟩
  have hk : k < w.Coins.length := by omega
  rw [idx_nat hk]
  simp [coin, hk]
theorem coin_range {w : Wheel} (h : OkW w) {a : Int} (h0 : 0 ≤ a) (h1 : a ≤ w.Coins.length - 1) : 1 ≤ coin w a ∧ coin w a ≤ 100 := by
  obtain ⟨k, rfl⟩ : ∃ k : Nat, a = k := ⟨a.toNat, by omega⟩
  have hk : k < w.Coins.length := by omega
  have : coin w k = w.Coins[k] := by simp [coin, hk]
  rw [this]
  exact h.cm _ (List.getElem_mem hk)
theorem actS_ok {w : Wheel} (h : OkW w) {s : Stand} {b a : Int} (hs : OkS w s b) (ha : okAct w a = true) : OkS w (actS w s a).1 (b + 100) := by
  have ha := inR_iff.1 ha
  have hr := h.r1
  unfold actS
  split
  · rename_i h0
    have hc := coin_range h h0 ha.2
    have ht := turn_range h hs.p0 hs.p1 (show 0 ≤ coin w a by omega)
    have := hs.c0
    have := hs.c1
    exact ⟨ht.1.1, ht.1.2, by show 0 ≤ s.Credit + _; omega, by show s.Credit + _ ≤ _; omega⟩
  · have := hs.c0
    have := hs.c1
    split
    · exact ⟨hs.p0, hs.p1, hs.c0, by show s.Credit ≤ b + 100; omega⟩
    · exact ⟨by show (0 : Int) ≤ 0; omega, by show (0 : Int) < _; omega, by show 0 ≤ s.Credit - 1; omega, by show s.Credit - 1 ≤ _; omega⟩
theorem Act_eq {n : Nat} {w : Wheel} (h : OkW w) (hn : 200 ≤ n) {s : Stand} {b a : Int} (hs : OkS w s b) (hb : b < 1099511627776) (ha : okAct w a = true) : ref01_Act n w s a = some (actS w s a) := by
  have ha := inR_iff.1 ha
  have := hs.c0
  have := hs.c1
  unfold ref01_Act actS
  by_cases h0 : 0 ≤ a
  · have hc := coin_range h h0 ha.2
    have ht := turn_range h hs.p0 hs.p1 (show 0 ≤ coin w a by omega)
    rw [if_pos (by simpa using h0), if_pos h0, coin_idx h0 ha.2, bnd_some, Put_turn h (by omega) hs.p0 hs.p1 (by omega) (by omega) (by omega), bnd_some, w64_id (by omega) (by omega)]
  · rw [if_neg (by simpa using h0), if_neg h0]
    by_cases hc : s.Credit = 0
    · rw [if_pos (by simpa using hc), if_pos hc]
    · rw [if_neg (by simpa using hc), if_neg hc, w64_id (by omega) (by omega)]
def zw : Wheel_ := ⟨⟨0, [], []⟩⟩
def worth (w : Wheel) : List Int → Int
  | [] => 0
  | k :: l => coin w k + worth w l
theorem SameInts_eq {n : Nat} (a b : List Int) (hs : a.length < 1048576) (hn : a.length < n) : ref01_SameInts n a b = some (decide (a = b)) := by
  unfold ref01_SameInts
  by_cases h : a.length = b.length
  · rw [if_neg (by simp [h])]
    have := loopL0 (F := fun m i (_ : Unit) => ref01_SameInts_l1 a b m i) (xs := a.zip b) (spec := fun l _ => some (decide (∀ q, q ∈ l → q.1 = q.2))) (n := n) (by simp [← h]; omega) (by simp [← h]; omega) () (fun m s => by simp [ref01_SameInts_l1, ref01_SameInts_l1_b, ref01_SameInts_j1, ← h]) (fun m i x l s hx hi hi' hd hrec => by
      have hi1 : i < a.length := by simp [← h] at hi; exact hi
      have hi2 : i < b.length := by omega
      have hx' : x = (a[i], b[i]) := by
        rw [idx_nat (by simp; omega)] at hx
        injection hx with hx
        rw [← hx]
        simp
      simp only [ref01_SameInts_l1, ref01_SameInts_l1_b]
      rw [if_pos (by simp; omega), idx_nat hi1, idx_nat hi2, bnd_some, bnd_some]
      subst hx'
      by_cases hb : a[i] = b[i]
      · rw [if_neg (by simp [hb]), hrec ()]
        simp [hb]
      · rw [if_pos (by simp [hb])]
        simp [hb])
    rw [show ref01_SameInts_l1 a b n 0 = _ from this]
    congr 1
    apply decide_eq_decide.2
    constructor
    · intro hq
      apply List.ext_getElem h
      intro i h1 h2
      have := hq (a[i], b[i]) (by
        have h3 : i < (a.zip b).length := by simp; omega
        have : (a.zip b)[i] = (a[i], b[i]) := by simp
        rw [← this]
        exact List.getElem_mem h3)
      exact this
    · rintro rfl q hq
      obtain ⟨i, hi, rfl⟩ := List.getElem_of_mem hq
      simp
  · rw [if_pos (by simp; omega)]
    have : a ≠ b := fun e => h (by rw [e])
    simp [this]
theorem SameInts_self {n : Nat} (a : List Int) (hs : a.length < 1048576) (hn : a.length < n) : ref01_SameInts n a a = some true := by rw [SameInts_eq a a hs hn]; simp
theorem same_self {n : Nat} {w : Wheel} (h : okLen n w) : law01_same n w w = some true := by
  unfold law01_same law01_same_j1
  rw [SameInts_self _ h.1 h.2.2.1, SameInts_self _ h.2.1 h.2.2.2]
  simp
theorem Copy_eq {n : Nat} {w : Wheel} (h : okLen n w) : ref01_Copy w = some w := by
  unfold ref01_Copy
  rw [app_ok (by simp; exact Nat.le_of_lt h.1), app_ok (by simp; exact Nat.le_of_lt h.2.1)]
  rfl
theorem app_nil {α : Type} {l : List α} (h : l.length < 1048576) : app ([] : List α) l = some l := by rw [app_ok (by simp; omega)]; rfl
def farW (w : Wheel) : Bool := decide ((w.Notches.length : Int) > 40) || decide ((w.Coins.length : Int) > 40)
theorem far_eq (w : Wheel) : law01_far w = some (farW w) := by
  unfold law01_far law01_far_j1 farW
  by_cases h : (w.Notches.length : Int) > 40
  · rw [if_pos (by simpa using h)]; simp [h]
  · rw [if_neg (by simpa using h)]; simp [h]
theorem farW_len {w : Wheel} (h : farW w = false) {n : Nat} (hn : 100 ≤ n) : okLen n w := by
  simp only [farW, Bool.or_eq_false_iff, decide_eq_false_iff_not] at h
  exact ⟨by omega, by omega, by omega, by omega⟩
section
variable {κ : Type} [DecidableEq κ]
theorem mhas_iff : ∀ {M : List (κ × Int)} {k : κ}, mhas M k = true ↔ k ∈ M.map (·.1)
  | [], k => by simp [mhas]
  | p :: M, k => by
    simp only [mhas, List.map_cons, List.mem_cons]
    by_cases h : p.1 = k
    · simp [h]
    · rw [if_neg h, mhas_iff]
      exact ⟨.inr, fun e => e.resolve_left (Ne.symm h)⟩
theorem mget_mem : ∀ {M : List (κ × Int)} {k : κ}, mhas M k = true → (k, mget M k) ∈ M
  | [], k, h => by simp [mhas] at h
  | p :: M, k, h => by
    by_cases e : p.1 = k
    · simp only [mget, if_pos e]
      rw [← e]
      exact List.mem_cons_self
    · simp only [mhas, if_neg e] at h
      simp only [mget, if_neg e]
      exact List.mem_cons_of_mem _ (mget_mem h)
theorem mget_no : ∀ {M : List (κ × Int)} {k : κ}, mhas M k = false → mget M k = 0
  | [], k, h => rfl
  | p :: M, k, h => by
    by_cases e : p.1 = k
    · simp [mhas, e] at h
    · simp only [mhas, if_neg e] at h
      simp only [mget, if_neg e]
      exact mget_no h
theorem mset_mem : ∀ {M : List (κ × Int)} {k : κ} {v : Int} {p : κ × Int}, p ∈ mset M k v → p = (k, v) ∨ p ∈ M
  | [], k, v, p, h => by simp [mset] at h; exact .inl h
  | q :: M, k, v, p, h => by
    simp only [mset] at h
    split at h
    · rcases List.mem_cons.1 h with h | h
      · exact .inl h
      · exact .inr (List.mem_cons_of_mem _ h)
    · rcases List.mem_cons.1 h with h | h
      · exact .inr (h ▸ List.mem_cons_self)
      · rcases mset_mem h with h | h
        · exact .inl h
        · exact .inr (List.mem_cons_of_mem _ h)
theorem mset_keys : ∀ {M : List (κ × Int)} {k : κ} {v : Int}, (mset M k v).map (·.1) = if mhas M k = true then M.map (·.1) else M.map (·.1) ++ [k]
  | [], k, v => by simp [mset, mhas]
  | q :: M, k, v => by
    by_cases e : q.1 = k
    · simp [mset, mhas, e]
    · simp only [mset, mhas, if_neg e, List.map_cons]
      rw [mset_keys]
      cases mhas M k <;> simp
theorem mset_nodup {M : List (κ × Int)} {k : κ} {v : Int} (h : (M.map (·.1)).Nodup) : ((mset M k v).map (·.1)).Nodup := by
  rw [mset_keys]
  cases e : mhas M k with
  | true => simpa using h
  | false =>
    have : ¬ k ∈ M.map (·.1) := fun hk => by rw [mhas_iff.2 hk] at e; cases e
    simp only [Bool.false_eq_true, if_false]
    rw [List.nodup_append]
    refine ⟨h, by simp, fun a ha b hb => ?_⟩
    simp only [List.mem_singleton] at hb
    subst hb
    exact fun e => this (e ▸ ha)
end
def stepB (b : Bool) (s : Bool × Int) (n : Int) : Bool × Int := if s.1 = true ∨ cond b (decide (n > s.2)) (decide (n < s.2)) = true then (false, n) else s
def pick (b : Bool) (vs : List Int) : Int := (vs.foldl (stepB b) (true, 0)).2
def leB (b : Bool) (x y : Int) : Prop := cond b (x ≤ y) (y ≤ x)
theorem leB.refl (b : Bool) (x : Int) : leB b x x := by cases b <;> exact Int.le_refl x
theorem leB.trans {b : Bool} {x y z : Int} (h : leB b x y) (h' : leB b y z) : leB b x z := by
  cases b
  · exact Int.le_trans h' h
  · exact Int.le_trans h h'
theorem leB.anti {b : Bool} {x y : Int} (h : leB b x y) (h' : leB b y x) : x = y := by
  cases b
  · exact Int.le_antisymm h' h
  · exact Int.le_antisymm h h'
theorem leB.add {b : Bool} {x y : Int} (h : leB b x y) (a : Int) : leB b (a + x) (a + y) := by
  cases b
  · exact Int.add_le_add_left h a
  · exact Int.add_le_add_left h a
theorem stepB_fold (b : Bool) : ∀ (vs : List Int) (m : Int), (vs.foldl (stepB b) (false, m)).1 = false ∧ ((vs.foldl (stepB b) (false, m)).2 = m ∨ (vs.foldl (stepB b) (false, m)).2 ∈ vs) ∧ leB b m (vs.foldl (stepB b) (false, m)).2 ∧ ∀ v, v ∈ vs → leB b v (vs.foldl (stepB b) (false, m)).2
  | [], m => ⟨rfl, .inl rfl, leB.refl b m, fun v h => by simp at h⟩
  | x :: vs, m => by
    simp only [List.foldl_cons]
    by_cases h : cond b (decide (x > m)) (decide (x < m)) = true
    · have e : stepB b (false, m) x = (false, x) := by
        unfold stepB
        rw [if_pos (.inr h)]
      rw [e]
      obtain ⟨h1, h2, h3, h4⟩ := stepB_fold b vs x
      have hm : leB b m x := by
        cases b
        · exact Int.le_of_lt (by simpa using h)
        · exact Int.le_of_lt (by simpa using h)
      refine ⟨h1, ?_, hm.trans h3, fun v hv => ?_⟩
      · rcases h2 with h2 | h2
        · exact .inr (by rw [h2]; exact List.mem_cons_self)
        · exact .inr (List.mem_cons_of_mem _ h2)
      · rcases List.mem_cons.1 hv with rfl | hv
        · exact h3
        · exact h4 v hv
    · have e : stepB b (false, m) x = (false, m) := by
        unfold stepB
        rw [if_neg (by simpa using h)]
      rw [e]
      obtain ⟨h1, h2, h3, h4⟩ := stepB_fold b vs m
      have hm : leB b x m := by
        cases b
        · simpa [leB] using h
        · simpa [leB] using h
      refine ⟨h1, h2.imp_right (List.mem_cons_of_mem _), h3, fun v hv => ?_⟩
      rcases List.mem_cons.1 hv with rfl | hv
      · exact hm.trans h3
      · exact h4 v hv
theorem stepB_first (b : Bool) (m x : Int) : stepB b (true, m) x = (false, x) := by
  unfold stepB
  rw [if_pos (.inl rfl)]
theorem pick_spec (b : Bool) {vs : List Int} (h : vs ≠ []) : pick b vs ∈ vs ∧ ∀ v, v ∈ vs → leB b v (pick b vs) := by
  cases vs with
  | nil => exact (h rfl).elim
  | cons x vs =>
    unfold pick
    rw [List.foldl_cons, stepB_first]
    obtain ⟨h1, h2, h3, h4⟩ := stepB_fold b vs x
    refine ⟨?_, fun v hv => ?_⟩
    · rcases h2 with h2 | h2
      · rw [h2]; exact List.mem_cons_self
      · exact List.mem_cons_of_mem _ h2
    · rcases List.mem_cons.1 hv with rfl | hv
      · exact h3
      · exact h4 v hv
theorem pick_eq (b : Bool) {vs : List Int} {r : Int} (h : r ∈ vs) (hr : ∀ v, v ∈ vs → leB b v r) : pick b vs = r := by
  obtain ⟨h1, h2⟩ := pick_spec b (vs := vs) (fun e => by rw [e] at h; simp at h)
  exact (hr _ h1).anti (h2 _ h)
theorem pick_nil (b : Bool) : pick b [] = 0 := rfl
def total : List Int → Int
  | [] => 0
  | x :: l => x + total l
def lessP (l : List Int) (k : Nat) : List Int := l.set k (l.getD k 0 - 1)
theorem total_set : ∀ {l : List Int} {k : Nat} {v : Int}, k < l.length → total (l.set k v) = total l - l.getD k 0 + v
  | [], k, v, h => by simp at h
  | x :: l, 0, v, h => by simp [total]; omega
  | x :: l, k + 1, v, h => by
    have := total_set (l := l) (k := k) (v := v) (by simpa using h)
    simp only [List.set_cons_succ, total, List.getD_cons_succ]
    omega
theorem total_less {l : List Int} {k : Nat} (h : k < l.length) : total (lessP l k) = total l - 1 := by
  unfold lessP
  rw [total_set h]
  omega
theorem total_nn : ∀ {l : List Int}, (∀ x, x ∈ l → 0 ≤ x) → 0 ≤ total l
  | [], _ => Int.le_refl _
  | x :: l, h => by
    have := h x (by simp)
    have := total_nn (l := l) (fun y hy => h y (by simp [hy]))
    simp only [total]
    omega
theorem getD_le : ∀ {l : List Int}, (∀ x, x ∈ l → 0 ≤ x) → ∀ k, 0 ≤ l.getD k 0 ∧ l.getD k 0 ≤ total l
  | [], _, k => by simp [total]
  | x :: l, h, 0 => by
    have := h x (by simp)
    have := total_nn (l := l) (fun y hy => h y (by simp [hy]))
    simp only [List.getD_cons_zero, total]
    omega
  | x :: l, h, k + 1 => by
    have := h x (by simp)
    have := getD_le (l := l) (fun y hy => h y (by simp [hy])) k
    simp only [List.getD_cons_succ, total]
    omega
theorem total_zero : ∀ {l : List Int}, (∀ x, x ∈ l → 0 ≤ x) → total l = 0 → ∀ k, l.getD k 0 = 0 := fun h h0 k => by
  have := getD_le h k
  omega
structure OkP (w : Wheel) (l : List Int) : Prop where
  len : l.length = w.Coins.length
  nn : ∀ x, x ∈ l → 0 ≤ x
  tot : total l ≤ 1000
theorem OkP.less {w : Wheel} {l : List Int} (h : OkP w l) {k : Nat} (hk : k < w.Coins.length) (h0 : l.getD k 0 ≠ 0) : OkP w (lessP l k) := by
  have hk' : k < l.length := by rw [h.len]; exact hk
  have := getD_le h.nn k
  refine ⟨by simp [lessP, h.len], fun x hx => ?_, by rw [total_less hk']; have := h.tot; omega⟩
  rcases List.mem_or_eq_of_mem_set hx with hx | rfl
  · exact h.nn x hx
  · omega
def bag4 (l : List Int) : List Int := [l.getD 0 0, l.getD 1 0, l.getD 2 0, l.getD 3 0]
def bagOf (l : List Int) : Bag_ := ⟨l.getD 0 0, l.getD 1 0, l.getD 2 0, l.getD 3 0⟩
theorem idx_bag {l : List Int} {k : Nat} (h : k < 4) : idx (bag4 l) (k : Int) = some (l.getD k 0) := by
  match k, h with
  | 0, _ => rfl
  | 1, _ => rfl
  | 2, _ => rfl
  | 3, _ => rfl
theorem set_bag {l : List Int} {k : Nat} {v : Int} (h : k < l.length) (h4 : l.length ≤ 4) : setI (bag4 l) (k : Int) v = some (bag4 (l.set k v)) := by
  unfold setI
  rw [if_pos ⟨by omega, by simp [bag4]; omega⟩, Int.toNat_natCast]
  match l, k, h, h4 with
  | [a], 0, _, _ => rfl
  | [a, b], 0, _, _ => rfl
  | [a, b], 1, _, _ => rfl
  | [a, b, c], 0, _, _ => rfl
  | [a, b, c], 1, _, _ => rfl
  | [a, b, c], 2, _, _ => rfl
  | [a, b, c, d], 0, _, _ => rfl
  | [a, b, c, d], 1, _, _ => rfl
  | [a, b, c, d], 2, _, _ => rfl
  | [a, b, c, d], 3, _, _ => rfl
theorem bag_inj {l l' : List Int} (h : bagOf l = bagOf l') (hl : l.length = l'.length) (h4 : l.length ≤ 4) : l = l' := by
  simp only [bagOf, Bag_.mk.injEq] at h
  obtain ⟨h0, h1, h2, h3⟩ := h
  apply List.ext_getElem hl
  intro i hi hi'
  have e1 : l[i] = l.getD i 0 := by simp [hi]
  have e2 : l'[i] = l'.getD i 0 := by simp [hi']
  rw [e1, e2]
  match i, (show i < 4 by omega) with
  | 0, _ => exact h0
  | 1, _ => exact h1
  | 2, _ => exact h2
  | 3, _ => exact h3
structure Opn where
  acts : List Int
  plays : Int
  p : Int
  c : Int
  k : Nat
def optC (w : Wheel) (p c : Int) (k : Nat) : Opn := ⟨[(k : Int)], (turn w p (coin w k)).2, (turn w p (coin w k)).1, c + (turn w p (coin w k)).2, k⟩
def optS (w : Wheel) (c : Int) (k : Nat) : Opn := ⟨[-1, (k : Int)], (turn w 0 (coin w k)).2, (turn w 0 (coin w k)).1, c - 1 + (turn w 0 (coin w k)).2, k⟩
def optK (w : Wheel) (p c : Int) (k : Nat) : List Opn := optC w p c k :: (if c = 0 ∨ p = 0 then [] else [optS w c k])
def opts (w : Wheel) (p c : Int) (l : List Int) : Nat → Nat → List Opn
  | 0, _ => []
  | d + 1, k => (if l.getD k 0 = 0 then [] else optK w p c k) ++ opts w p c l d (k + 1)
theorem opts_mem {w : Wheel} {p c : Int} {l : List Int} {o : Opn} : ∀ {d k : Nat}, o ∈ opts w p c l d k ↔ ∃ j, k ≤ j ∧ j < k + d ∧ l.getD j 0 ≠ 0 ∧ o ∈ optK w p c j
  | 0, k => by
    simp only [opts, List.not_mem_nil, false_iff]
    rintro ⟨j, h1, h2, _⟩
    omega
  | d + 1, k => by
    simp only [opts, List.mem_append]
    rw [opts_mem]
    constructor
    · rintro (h | ⟨j, h1, h2, h3, h4⟩)
      · split at h
        · simp at h
        · rename_i h0
          exact ⟨k, Nat.le_refl k, by omega, h0, h⟩
      · exact ⟨j, by omega, by omega, h3, h4⟩
    · rintro ⟨j, h1, h2, h3, h4⟩
      by_cases e : j = k
      · subst e
        exact .inl (by rw [if_neg h3]; exact h4)
      · exact .inr ⟨j, by omega, by omega, h3, h4⟩
theorem optK_mem {w : Wheel} {p c : Int} {k : Nat} {o : Opn} : o ∈ optK w p c k ↔ o = optC w p c k ∨ (c ≠ 0 ∧ p ≠ 0 ∧ o = optS w c k) := by
  unfold optK
  rw [List.mem_cons]
  by_cases h : c = 0 ∨ p = 0
  · rw [if_pos h]
    simp only [List.not_mem_nil, or_false]
    exact ⟨.inl, fun q => q.elim id fun q => (h.elim q.1 q.2.1).elim⟩
  · rw [if_neg h]
    simp only [List.mem_singleton]
    exact or_congr_right ⟨fun q => ⟨fun e => h (.inl e), fun e => h (.inr e), q⟩, fun q => q.2.2⟩
def Q (b : Bool) (w : Wheel) : Nat → Int → Int → List Int → Int
  | 0, _, _, _ => 0
  | T + 1, p, c, l => pick b ((opts w p c l l.length 0).map fun o => o.plays + Q b w T o.p o.c (lessP l o.k))
structure OkO (w : Wheel) (c : Int) (l : List Int) (o : Opn) : Prop where
  k : o.k < w.Coins.length
  nz : l.getD o.k 0 ≠ 0
  p0 : 0 ≤ o.p
  p1 : o.p < w.Round
  c0 : 0 ≤ o.c
  c1 : o.c ≤ c + 100
  y0 : 0 ≤ o.plays
  y1 : o.plays ≤ 100
theorem opts_ok {w : Wheel} (h : OkW w) {p c : Int} (hp : 0 ≤ p) (hp' : p < w.Round) (hc : 0 ≤ c) {l : List Int} (hl : OkP w l) {o : Opn} (ho : o ∈ opts w p c l l.length 0) : OkO w c l o := by
  have hr := h.r1
  obtain ⟨j, _, h2, h3, h4⟩ := opts_mem.1 ho
  have hj : j < w.Coins.length := by have := hl.len; omega
  have hco := coin_range h (a := (j : Int)) (by omega) (by omega)
  rcases optK_mem.1 h4 with rfl | ⟨h5, h6, rfl⟩
  · have ht := turn_range h hp hp' (show 0 ≤ coin w j by omega)
    exact ⟨hj, h3, ht.1.1, ht.1.2, by show 0 ≤ c + _; omega, by show c + _ ≤ _; omega, ht.2.1, by show (turn w p (coin w j)).2 ≤ 100; omega⟩
  · have ht := turn_range h (p := 0) (by omega) (by omega) (show 0 ≤ coin w j by omega)
    exact ⟨hj, h3, ht.1.1, ht.1.2, by show 0 ≤ c - 1 + _; omega, by show c - 1 + _ ≤ _; omega, ht.2.1, by show (turn w 0 (coin w j)).2 ≤ 100; omega⟩
theorem exists_nz : ∀ {l : List Int}, total l ≠ 0 → ∃ j, j < l.length ∧ l.getD j 0 ≠ 0
  | [], h => (h rfl).elim
  | x :: l, h => by
    by_cases e : x = 0
    · obtain ⟨j, h1, h2⟩ := exists_nz (l := l) (fun q => h (by simp [total, q, e]))
      exact ⟨j + 1, by simp; omega, by simpa using h2⟩
    · exact ⟨0, by simp, by simpa using e⟩
theorem opts_ne {w : Wheel} {p c : Int} {l : List Int} (h : total l ≠ 0) : ∃ j, j < l.length ∧ l.getD j 0 ≠ 0 ∧ optC w p c j ∈ opts w p c l l.length 0 := by
  obtain ⟨j, h1, h2⟩ := exists_nz h
  exact ⟨j, h1, h2, opts_mem.2 ⟨j, by omega, by omega, h2, optK_mem.2 (.inl rfl)⟩⟩
theorem Q_range (b : Bool) {w : Wheel} (h : OkW w) : ∀ (T : Nat) {p c : Int} {l : List Int}, 0 ≤ p → p < w.Round → 0 ≤ c → OkP w l → 0 ≤ Q b w T p c l ∧ Q b w T p c l ≤ 100 * T
  | 0, p, c, l, _, _, _, _ => by simp [Q]
  | T + 1, p, c, l, hp, hp', hc, hl => by
    simp only [Q]
    by_cases e : ((opts w p c l l.length 0).map fun o => o.plays + Q b w T o.p o.c (lessP l o.k)) = []
    · rw [e]
      exact ⟨by simp [pick_nil], by simp [pick_nil]; omega⟩
    · obtain ⟨h1, _⟩ := pick_spec b e
      obtain ⟨o, ho, he⟩ := List.mem_map.1 h1
      have ok := opts_ok h hp hp' hc hl ho
      have := Q_range b h T ok.p0 ok.p1 ok.c0 (hl.less ok.k ok.nz)
      have := ok.y0
      have := ok.y1
      rw [← he]
      omega
theorem Q_clamp (b : Bool) {w : Wheel} (h : OkW w) : ∀ (T : Nat) {p c c' : Int} {l : List Int}, 0 ≤ p → p < w.Round → (T : Int) ≤ c → (T : Int) ≤ c' → OkP w l → (∀ j, w.Coins.length ≤ j → l.getD j 0 = 0) → Q b w T p c l = Q b w T p c' l
  | 0, p, c, c', l, _, _, _, _, _, _ => rfl
  | T + 1, p, c, c', l, hp, hp', hc, hc', hl, hz => by
    simp only [Q]
    congr 1
    have key : ∀ o o' : Opn, o.plays = o'.plays → o.p = o'.p → o.k = o'.k → (0 ≤ o.p ∧ o.p < w.Round) → (T : Int) ≤ o.c → (T : Int) ≤ o'.c → o.k < w.Coins.length → l.getD o.k 0 ≠ 0 → o.plays + Q b w T o.p o.c (lessP l o.k) = o'.plays + Q b w T o'.p o'.c (lessP l o'.k) := by
      intro o o' e1 e2 e3 hq h1 h2 h3 h4
      have hl' := hl.less h3 h4
      rw [← e1, ← e2, ← e3, Q_clamp b h T hq.1 hq.2 h1 h2 hl' (fun j hj => by
        unfold lessP
        rw [List.getD_eq_getElem?_getD, List.getElem?_set_ne (by omega), ← List.getD_eq_getElem?_getD]
        exact hz j hj)]
    have main : ∀ d k, (opts w p c l d k).map (fun o => o.plays + Q b w T o.p o.c (lessP l o.k)) = (opts w p c' l d k).map (fun o => o.plays + Q b w T o.p o.c (lessP l o.k)) := by
      intro d
      induction d with
      | zero => intro k; rfl
      | succ d ih =>
        intro k
        simp only [opts, List.map_append]
        rw [ih (k + 1)]
        congr 1
        split
        · rfl
        · rename_i h0
          have hk : k < w.Coins.length := by
            rcases Nat.lt_or_ge k w.Coins.length with q | q
            · exact q
            · exact (h0 (hz k q)).elim
          have hco := coin_range h (a := (k : Int)) (by omega) (by omega)
          have hr := h.r1
          have ht := turn_range h hp hp' (show 0 ≤ coin w k by omega)
          have ht0 := turn_range h (p := 0) (by omega) (by omega) (show 0 ≤ coin w k by omega)
          have k1 := key (optC w p c k) (optC w p c' k) rfl rfl rfl ht.1 (by show (T : Int) ≤ c + _; omega) (by show (T : Int) ≤ c' + _; omega) hk h0
          have k2 := key (optS w c k) (optS w c' k) rfl rfl rfl ht0.1 (by show (T : Int) ≤ c - 1 + _; omega) (by show (T : Int) ≤ c' - 1 + _; omega) hk h0
          unfold optK
          by_cases e : p = 0
          · rw [if_pos (.inr e), if_pos (.inr e)]
            simp [k1]
          · rw [if_neg (by omega), if_neg (by omega)]
            simp [k1, k2]
    exact main _ _
theorem OkP.out {w : Wheel} {l : List Int} (h : OkP w l) : ∀ j, w.Coins.length ≤ j → l.getD j 0 = 0 := fun j hj => by
  rw [← h.len] at hj
  simp [hj]
theorem Q_min (b : Bool) {w : Wheel} (h : OkW w) {T : Nat} {p c : Int} {l : List Int} (hp : 0 ≤ p) (hp' : p < w.Round) (hl : OkP w l) : Q b w T p (min c T) l = Q b w T p c l := by
  by_cases e : c ≤ T
  · rw [Int.min_eq_left e]
  · rw [Int.min_eq_right (by omega)]
    exact Q_clamp b h T hp hp' (by omega) (by omega) hl hl.out
def runY {S : Type} (F : Opn → S → Option (Bool × S)) : List Opn → S → Option S
  | [], s => some s
  | o :: l, s => (F o s).bind fun r => if r.1 = true then runY F l r.2 else some r.2
def spot (l : List Int) (p c : Int) : Spot_ := ⟨bagOf l, p, c⟩
theorem after_j {n : Nat} {w : Wheel} (h : OkW w) (hn : 200 ≤ n) {p c : Int} (hp : 0 ≤ p) (hp' : p < w.Round) (hc : -1 ≤ c) (hc2 : c < 1099511627776) {l : List Int} (hl : OkP w l) {k : Nat} (hk : k < w.Coins.length) :
    coins_wheel_after_j1 n ⟨w⟩ k (l.getD 0 0) (l.getD 1 0) (l.getD 2 0) (l.getD 3 0) p c = some (spot (lessP l k) (turn w p (coin w k)).1 (c + (turn w p (coin w k)).2), (turn w p (coin w k)).2) := by
  have hco := coin_range h (a := (k : Int)) (by omega) (by omega)
  have ht := turn_range h hp hp' (show 0 ≤ coin w k by omega)
  have h4 := h.clen
  have hg := getD_le hl.nn k
  have htot := hl.tot
  unfold coins_wheel_after_j1
  show Option.bind (idx w.Coins (k : Int)) _ = _
  rw [coin_idx (by omega) (by omega), bnd_some, turn_eq h (by omega) hp hp' (by omega) (by omega), bnd_some]
  rw [show ([l.getD 0 0, l.getD 1 0, l.getD 2 0, l.getD 3 0] : List Int) = bag4 l from rfl, idx_bag (by omega), bnd_some, bnd_some, w64_id (by omega) (by omega), set_bag (by rw [hl.len]; exact hk) (by rw [hl.len]; exact h4), bnd_some, w64_id (by omega) (by omega)]
  rfl
theorem after_c {n : Nat} {w : Wheel} (h : OkW w) (hn : 200 ≤ n) {p c : Int} (hp : 0 ≤ p) (hp' : p < w.Round) (hc : 0 ≤ c) (hc2 : c < 1099511627776) {l : List Int} (hl : OkP w l) {k : Nat} (hk : k < w.Coins.length) :
    coins_wheel_after n ⟨w⟩ (spot l p c) k false = some (spot (lessP l k) (optC w p c k).p (optC w p c k).c, (optC w p c k).plays) := by
  unfold coins_wheel_after
  rw [if_neg (by simp)]
  exact after_j h hn hp hp' (by omega) hc2 hl hk
theorem after_s {n : Nat} {w : Wheel} (h : OkW w) (hn : 200 ≤ n) {p c : Int} (hc : 0 ≤ c) (hc2 : c < 1099511627776) {l : List Int} (hl : OkP w l) {k : Nat} (hk : k < w.Coins.length) :
    coins_wheel_after n ⟨w⟩ (spot l p c) k true = some (spot (lessP l k) (optS w c k).p (optS w c k).c, (optS w c k).plays) := by
  have hr := h.r1
  unfold coins_wheel_after
  rw [if_pos rfl]
  show coins_wheel_after_j1 n ⟨w⟩ k _ _ _ _ 0 (w64 (c - 1)) = _
  rw [w64_id (by omega) (by omega)]
  exact after_j h hn (by omega) (by omega) (by omega) (by omega) hl hk
theorem next_eq {S : Type} {n : Nat} {w : Wheel} (h : OkW w) (hn : 200 ≤ n) {p c : Int} (hp : 0 ≤ p) (hp' : p < w.Round) (hc : 0 ≤ c) (hc2 : c < 1099511627776) {l : List Int} (hl : OkP w l) (b : Bool) (aF : List Int → Spot_ → Int → S → Option (Bool × S)) (st : S) :
    coins_search_next n aF (⟨w⟩, b) (spot l p c) st = (runY (fun o s => aF o.acts (spot (lessP l o.k) o.p o.c) o.plays s) (opts w p c l l.length 0) st).map fun s => ((), s) := by
  have h4 := h.clen
  have key := loopR (F := fun m i s => coins_search_next_l1 n (⟨w⟩, b) (spot l p c) aF m (l.getD 0 0) (l.getD 1 0) (l.getD 2 0) (l.getD 3 0) i s) (b := w.Coins.length)
    (spec := fun i s => (runY (fun o s => aF o.acts (spot (lessP l o.k) o.p o.c) o.plays s) (opts w p c l (w.Coins.length - i) i) s).map fun s => ((), s)) (by omega)
    (fun m s => by simp [coins_search_next_l1, coins_search_next_l1_b, opts, runY])
    (fun m i s hi hrec => by
      obtain ⟨d, hd⟩ : ∃ d, w.Coins.length - i = d + 1 := ⟨w.Coins.length - i - 1, by omega⟩
      have hd' : w.Coins.length - (i + 1) = d := by omega
      simp only [hd'] at hrec
      simp only [coins_search_next_l1, coins_search_next_l1_b, hd, opts]
      rw [if_pos (by simp; omega), show ([l.getD 0 0, l.getD 1 0, l.getD 2 0, l.getD 3 0] : List Int) = bag4 l from rfl, idx_bag (by omega), bnd_some]
      by_cases e : l.getD i 0 = 0
      · rw [if_pos (by simpa using e), if_pos e]
        simp only [coins_search_next_j1, List.nil_append]
        exact hrec s
      · rw [if_neg (by simpa using e), if_neg e]
        rw [show (⟨⟨l.getD 0 0, l.getD 1 0, l.getD 2 0, l.getD 3 0⟩, (spot l p c).place, (spot l p c).credit⟩ : Spot_) = spot l p c from rfl, after_c h hn hp hp' hc hc2 hl hi, bnd_some]
        unfold optK
        simp only [List.cons_append, runY]
        show Option.bind (aF (optC w p c i).acts _ _ s) _ = _
        rw [show (optC w p c i).k = i from rfl]
        cases hF : aF (optC w p c i).acts (spot (lessP l i) (optC w p c i).p (optC w p c i).c) (optC w p c i).plays s with
        | none => rfl
        | some r =>
          simp only [bnd_some]
          cases hr : r.1 with
          | false => simp
          | true =>
            simp only [Bool.not_true, Bool.false_eq_true, if_false, if_true]
            have skip : coins_search_next_j2 n (coins_search_next_l1 n (⟨w⟩, b) (spot l p c) aF m) (⟨w⟩, b) (spot l p c) aF (l.getD 0 0) (l.getD 1 0) (l.getD 2 0) (l.getD 3 0) (i : Int) r true = (runY (fun o s => aF o.acts (spot (lessP l o.k) o.p o.c) o.plays s) (opts w p c l d (i + 1)) r.2).map fun s => ((), s) := by
              unfold coins_search_next_j2 coins_search_next_j1
              rw [if_pos rfl]
              exact hrec r.2
            have go : c ≠ 0 → coins_search_next_j2 n (coins_search_next_l1 n (⟨w⟩, b) (spot l p c) aF m) (⟨w⟩, b) (spot l p c) aF (l.getD 0 0) (l.getD 1 0) (l.getD 2 0) (l.getD 3 0) (i : Int) r false = (runY (fun o s => aF o.acts (spot (lessP l o.k) o.p o.c) o.plays s) (optS w c i :: opts w p c l d (i + 1)) r.2).map fun s => ((), s) := by
              intro hc0
              unfold coins_search_next_j2 coins_search_next_j1
              rw [if_neg (by simp)]
              rw [show (⟨⟨l.getD 0 0, l.getD 1 0, l.getD 2 0, l.getD 3 0⟩, (spot l p c).place, (spot l p c).credit⟩ : Spot_) = spot l p c from rfl, after_s h hn hc hc2 hl hi, bnd_some]
              simp only [runY]
              show Option.bind (aF (optS w c i).acts _ _ r.2) _ = _
              rw [show (optS w c i).k = i from rfl]
              cases hF2 : aF (optS w c i).acts (spot (lessP l i) (optS w c i).p (optS w c i).c) (optS w c i).plays r.2 with
              | none => rfl
              | some r2 =>
                simp only [bnd_some]
                cases hr2 : r2.1 with
                | false => simp
                | true =>
                  simp only [Bool.not_true, Bool.false_eq_true, if_false, if_true]
                  exact hrec r2.2
            show (if (c == 0) = true then _ else coins_search_next_j2 n _ _ _ aF _ _ _ _ _ r (p == 0)) = _
            by_cases e1 : c = 0
            · rw [if_pos (by simpa using e1), if_pos (.inl e1)]
              exact skip
            · rw [if_neg (by simpa using e1)]
              by_cases e2 : p = 0
              · rw [if_pos (.inr e2), show (p == 0) = true by simpa using e2]
                exact skip
              · rw [if_neg (by simp [e1, e2]), show (p == 0) = false by simpa using e2]
                exact go e1)
    w.Coins.length 0 n st (by omega) (by omega) (by omega)
  rw [Nat.sub_zero, ← hl.len] at key
  exact key
def InvM (b : Bool) (w : Wheel) (M : List (Spot_ × Int)) : Prop :=
  (M.map (·.1)).Nodup ∧ ∀ e, e ∈ M → ∃ l p c, e.1 = spot l p c ∧ OkP w l ∧ (0 ≤ p ∧ p < w.Round) ∧ (0 ≤ c ∧ c < 1099511627776) ∧ e.2 = Q b w (total l).toNat p c l
theorem InvM.nil (b : Bool) (w : Wheel) : InvM b w [] := ⟨by simp, fun e h => by simp at h⟩
theorem okI_of {x : Int} (h1 : -9223372036854775808 ≤ x) (h2 : x < 9223372036854775808) : okI x = true := by
  simp only [okI, Lit.wf, IntKind.min, IntKind.max, IntKind.signed, IntKind.bits]
  simp
  omega
theorem okSpot_of {w : Wheel} (h : OkW w) {l : List Int} (hl : OkP w l) {p c : Int} (hp : 0 ≤ p) (hp' : p < w.Round) (hc : 0 ≤ c) (hc2 : c < 1099511627776) : okSpot_ (spot l p c) = true := by
  have hr := h.r2
  have ht := hl.tot
  have g := getD_le hl.nn
  have g0 := g 0
  have g1 := g 1
  have g2 := g 2
  have g3 := g 3
  simp only [okSpot_, spot, bagOf, List.all_cons, List.all_nil, Bool.and_true, Bool.and_eq_true]
  exact ⟨okI_of (by omega) (by omega), okI_of (by omega) (by omega), okI_of (by omega) (by omega), okI_of (by omega) (by omega), okI_of (by omega) (by omega), okI_of (by omega) (by omega)⟩
theorem InvM.mok {b : Bool} {w : Wheel} {M : List (Spot_ × Int)} (hM : InvM b w M) (h : OkW w) {l : List Int} (hl : OkP w l) {p c : Int} (hp : 0 ≤ p) (hp' : p < w.Round) (hc : 0 ≤ c) (hc2 : c < 1099511627776) : mok okSpot_ M (spot l p c) = true := by
  unfold Go.AM.mok
  rw [okSpot_of h hl hp hp' hc hc2, show M.all (fun p => okSpot_ p.1) = true from List.all_eq_true.2 fun e he => ?_, show decide ((M.map (·.1)).Nodup) = true by simpa using hM.1]
  · rfl
  · obtain ⟨l', p', c', e1, e2, e3, e4, _⟩ := hM.2 e he
    rw [e1]
    exact okSpot_of h e2 e3.1 e3.2 e4.1 e4.2
theorem InvM.get {b : Bool} {w : Wheel} {M : List (Spot_ × Int)} (hM : InvM b w M) (h : OkW w) {l : List Int} (hl : OkP w l) {p c : Int} (hk : mhas M (spot l p c) = true) : mget M (spot l p c) = Q b w (total l).toNat p c l := by
  obtain ⟨l', p', c', e1, e2, e3, e4, e5⟩ := hM.2 _ (mget_mem hk)
  simp only [spot, Spot_.mk.injEq] at e1
  obtain ⟨q1, q2, q3⟩ := e1
  have e : l = l' := bag_inj q1 (by rw [hl.len, e2.len]) (by rw [hl.len]; exact h.clen)
  subst e q2 q3
  exact e5
theorem InvM.set {b : Bool} {w : Wheel} {M : List (Spot_ × Int)} (hM : InvM b w M) {l : List Int} (hl : OkP w l) {p c : Int} (hp : 0 ≤ p) (hp' : p < w.Round) (hc : 0 ≤ c) (hc2 : c < 1099511627776) : InvM b w (mset M (spot l p c) (Q b w (total l).toNat p c l)) := by
  refine ⟨mset_nodup hM.1, fun e he => ?_⟩
  rcases mset_mem he with rfl | he
  · exact ⟨l, p, c, rfl, hl, ⟨hp, hp'⟩, ⟨hc, hc2⟩, rfl⟩
  · exact hM.2 e he
theorem better_eq (b : Bool) (x y : Int) : coins_better b x y = some (cond b (decide (x > y)) (decide (x < y))) := by cases b <;> rfl
theorem buys_fold {n : Nat} {b : Bool} {w : Wheel} {l : List Int} {T : Nat}
    (rec : ∀ o, OkO w 2000 l o → ∀ M, InvM b w M → ∃ M', coins_search_buys n (⟨w⟩, b) (spot (lessP l o.k) o.p o.c) M = some (Q b w T o.p o.c (lessP l o.k), M') ∧ InvM b w M')
    (hq : ∀ o, OkO w 2000 l o → 0 ≤ Q b w T o.p o.c (lessP l o.k) ∧ Q b w T o.p o.c (lessP l o.k) ≤ 1000000) :
    ∀ (os : List Opn), (∀ o, o ∈ os → OkO w 2000 l o) → ∀ (f : Bool) (m : Int) (M : List (Spot_ × Int)), InvM b w M →
      ∃ M', runY (fun o s => coins_search_buys_c1 (coins_search_buys n) o.acts (spot (lessP l o.k) o.p o.c) o.plays (⟨w⟩, b) s) os (f, m, M) =
        some ((((os.map fun o => o.plays + Q b w T o.p o.c (lessP l o.k)).foldl (stepB b) (f, m)).1), (((os.map fun o => o.plays + Q b w T o.p o.c (lessP l o.k)).foldl (stepB b) (f, m)).2), M') ∧ InvM b w M'
  | [], _, f, m, M, hM => ⟨M, rfl, hM⟩
  | o :: os, ho, f, m, M, hM => by
    have ok := ho o (by simp)
    obtain ⟨M1, h1, h2⟩ := rec o ok M hM
    have hr := hq o ok
    have y0 := ok.y0
    have y1 := ok.y1
    have step : coins_search_buys_c1 (coins_search_buys n) o.acts (spot (lessP l o.k) o.p o.c) o.plays (⟨w⟩, b) (f, m, M) = some (true, (stepB b (f, m) (o.plays + Q b w T o.p o.c (lessP l o.k))).1, (stepB b (f, m) (o.plays + Q b w T o.p o.c (lessP l o.k))).2, M1) := by
      unfold coins_search_buys_c1
      simp only []
      rw [h1, bnd_some]
      simp only [coins_search_buys_c1_j2, coins_search_buys_c1_j1]
      rw [w64_id (by omega) (by omega), better_eq, bnd_some]
      unfold stepB
      cases f with
      | true => simp
      | false =>
        simp only [Bool.false_eq_true, false_or, if_false]
        cases hb : cond b (decide (o.plays + Q b w T o.p o.c (lessP l o.k) > m)) (decide (o.plays + Q b w T o.p o.c (lessP l o.k) < m)) <;> simp
    obtain ⟨M2, h3, h4⟩ := buys_fold rec hq os (fun o' h' => ho o' (by simp [h'])) (stepB b (f, m) (o.plays + Q b w T o.p o.c (lessP l o.k))).1 (stepB b (f, m) (o.plays + Q b w T o.p o.c (lessP l o.k))).2 M1 h2
    refine ⟨M2, ?_, h4⟩
    simp only [runY, step, bnd_some, if_true, h3, List.map_cons, List.foldl_cons]
theorem total_bag {l : List Int} (h4 : l.length ≤ 4) : l.getD 0 0 + l.getD 1 0 + l.getD 2 0 + l.getD 3 0 = total l := by
  match l, h4 with
  | [], _ => rfl
  | [a], _ => simp [total]
  | [a, b], _ => simp [total]
  | [a, b, c], _ => simp [total]; omega
  | [a, b, c, d], _ => simp [total]; omega
theorem buys_sum {n : Nat} (rec : (Wheel_ × Bool) → Spot_ → (List (Spot_ × Int)) → Option (Int × (List (Spot_ × Int)))) (a0 : Wheel_ × Bool) {l : List Int} (h4 : l.length ≤ 4) (hnn : ∀ x, x ∈ l → 0 ≤ x) (ht : total l ≤ 1000) (p c : Int) (M : List (Spot_ × Int)) (hn : 10 ≤ n) :
    coins_search_buys_b n rec a0 (spot l p c) M = coins_search_buys_j1 n rec a0 (spot l p c) M (total l) (l.getD 0 0) (l.getD 1 0) (l.getD 2 0) (l.getD 3 0) := by
  have g := getD_le hnn
  have g0 := g 0
  have g1 := g 1
  have g2 := g 2
  have g3 := g 3
  have hb := total_bag h4
  obtain ⟨m, rfl⟩ : ∃ m, n = m + 5 := ⟨n - 5, by omega⟩
  unfold coins_search_buys_b
  simp only [coins_search_buys_l1, coins_search_buys_l1_b]
  have e1 : w64 (0 + 1) = 1 := rfl
  have e2 : w64 (1 + 1) = 2 := rfl
  have e3 : w64 (2 + 1) = 3 := rfl
  have e4 : w64 (3 + 1) = 4 := rfl
  have i0 : idx ([(spot l p c).left.c0, (spot l p c).left.c1, (spot l p c).left.c2, (spot l p c).left.c3] : List Int) 0 = some (l.getD 0 0) := rfl
  have i1 : idx ([(spot l p c).left.c0, (spot l p c).left.c1, (spot l p c).left.c2, (spot l p c).left.c3] : List Int) 1 = some (l.getD 1 0) := rfl
  have i2 : idx ([(spot l p c).left.c0, (spot l p c).left.c1, (spot l p c).left.c2, (spot l p c).left.c3] : List Int) 2 = some (l.getD 2 0) := rfl
  have i3 : idx ([(spot l p c).left.c0, (spot l p c).left.c1, (spot l p c).left.c2, (spot l p c).left.c3] : List Int) 3 = some (l.getD 3 0) := rfl
  rw [if_pos (by decide), i0, bnd_some, e1, w64_id (x := 0 + _) (by omega) (by omega)]
  rw [if_pos (by decide), i1, bnd_some, e2, w64_id (x := 0 + l.getD 0 0 + _) (by omega) (by omega)]
  rw [if_pos (by decide), i2, bnd_some, e3, w64_id (x := 0 + l.getD 0 0 + l.getD 1 0 + _) (by omega) (by omega)]
  rw [if_pos (by decide), i3, bnd_some, e4, w64_id (x := 0 + l.getD 0 0 + l.getD 1 0 + l.getD 2 0 + _) (by omega) (by omega)]
  rw [if_neg (by decide), show 0 + l.getD 0 0 + l.getD 1 0 + l.getD 2 0 + l.getD 3 0 = total l by omega]
  rfl
theorem buys_eq {b : Bool} {w : Wheel} (h : OkW w) : ∀ (T n : Nat) (p c : Int) (l : List Int) (M : List (Spot_ × Int)), (T : Int) = total l → T + 300 ≤ n → OkP w l → 0 ≤ p → p < w.Round → 0 ≤ c → c < 1099511627776 → InvM b w M →
    ∃ M', coins_search_buys n (⟨w⟩, b) (spot l p c) M = some (Q b w T p c l, M') ∧ InvM b w M' := by
  intro T
  induction T with
  | zero =>
    intro n p c l M hT hn hl hp hp' hc hc2 hM
    obtain ⟨n, rfl⟩ : ∃ m, n = m + 1 := ⟨n - 1, by omega⟩
    have h4 : l.length ≤ 4 := by rw [hl.len]; exact h.clen
    refine ⟨M, ?_, hM⟩
    show coins_search_buys_b n _ _ _ _ = _
    rw [buys_sum _ _ h4 hl.nn hl.tot p c M (by omega)]
    unfold coins_search_buys_j1
    have e0 : total l = 0 := by omega
    rw [show (⟨⟨l.getD 0 0, l.getD 1 0, l.getD 2 0, l.getD 3 0⟩, (spot l p c).place, min (spot l p c).credit (total l)⟩ : Spot_) = spot l p (min c (total l)) from rfl]
    unfold mlook
    rw [if_pos (hM.mok h hl hp hp' (by omega) (by omega)), bnd_some]
    have hv : mget M (spot l p (min c (total l))) = 0 := by
      cases hh : mhas M (spot l p (min c (total l))) with
      | true =>
        rw [hM.get h hl hh, e0]
        rfl
      | false => exact mget_no hh
    rw [hv, e0]
    unfold coins_search_buys_j2
    simp [Q]
  | succ T ih =>
    intro n p c l M hT hn hl hp hp' hc hc2 hM
    obtain ⟨n, rfl⟩ : ∃ m, n = m + 1 := ⟨n - 1, by omega⟩
    have h4 : l.length ≤ 4 := by rw [hl.len]; exact h.clen
    have htot := hl.tot
    have hc' : 0 ≤ min c (total l) ∧ min c (total l) ≤ total l := by omega
    have hT2 : (total l).toNat = T + 1 := by omega
    have hQ : Q b w (T + 1) p (min c (total l)) l = Q b w (T + 1) p c l := by
      rw [← hT]
      exact Q_min b h hp hp' hl
    show ∃ M', coins_search_buys_b n _ _ _ _ = _ ∧ _
    rw [buys_sum _ _ h4 hl.nn hl.tot p c M (by omega)]
    unfold coins_search_buys_j1 coins_search_buys_j2
    rw [show (⟨⟨l.getD 0 0, l.getD 1 0, l.getD 2 0, l.getD 3 0⟩, (spot l p c).place, min (spot l p c).credit (total l)⟩ : Spot_) = spot l p (min c (total l)) from rfl]
    unfold mlook
    rw [if_pos (hM.mok h hl hp hp' (by omega) (by omega)), bnd_some]
    cases hh : mhas M (spot l p (min c (total l))) with
    | true =>
      refine ⟨M, ?_, hM⟩
      rw [if_pos rfl, if_pos rfl, hM.get h hl hh, hT2, hQ]
    | false =>
      rw [if_neg (by simp), show (total l == 0) = false by simp; omega, if_neg (by simp)]
      rw [next_eq h (by omega) hp hp' hc'.1 (by omega) hl b]
      have hok : ∀ o, o ∈ opts w p (min c (total l)) l l.length 0 → OkO w 2000 l o := fun o ho => by
        have := opts_ok h hp hp' hc'.1 hl ho
        exact ⟨this.k, this.nz, this.p0, this.p1, this.c0, by have := this.c1; omega, this.y0, this.y1⟩
      obtain ⟨M1, h1, h2⟩ := buys_fold (n := n) (b := b) (w := w) (l := l) (T := T)
        (fun o ok M0 hM0 => ih n o.p o.c (lessP l o.k) M0 (by rw [total_less (by rw [hl.len]; exact ok.k)]; omega) (by omega) (hl.less ok.k ok.nz) ok.p0 ok.p1 ok.c0 (by have := ok.c1; omega) hM0)
        (fun o ok => by
          have := Q_range b h T ok.p0 ok.p1 ok.c0 (hl.less ok.k ok.nz)
          omega)
        _ hok true 0 M hM
      rw [h1, Option.map_some, bnd_some]
      simp only []
      unfold mstore
      rw [if_pos (h2.mok h hl hp hp' (by omega) (by omega)), bnd_some]
      have hset := h2.set hl hp hp' hc'.1 (show min c (total l) < 1099511627776 by omega)
      rw [hT2] at hset
      have hval' : (((opts w p (min c (total l)) l l.length 0).map fun o => o.plays + Q b w T o.p o.c (lessP l o.k)).foldl (stepB b) (true, 0)).2 = Q b w (T + 1) p (min c (total l)) l := rfl
      rw [hval']
      exact ⟨_, by rw [hQ], hQ ▸ hset⟩
def optC0 (w : Wheel) (p c : Int) (l : List Int) : Nat → Nat → List Opn
  | 0, _ => []
  | d + 1, k => (if l.getD k 0 = 0 then [] else [optC w p c k]) ++ optC0 w p c l d (k + 1)
theorem optC0_mem {w : Wheel} {p c : Int} {l : List Int} {o : Opn} : ∀ {d k : Nat}, o ∈ optC0 w p c l d k ↔ ∃ j, k ≤ j ∧ j < k + d ∧ l.getD j 0 ≠ 0 ∧ o = optC w p c j
  | 0, k => by
    simp only [optC0, List.not_mem_nil, false_iff]
    rintro ⟨j, h1, h2, _⟩
    omega
  | d + 1, k => by
    simp only [optC0, List.mem_append]
    rw [optC0_mem]
    constructor
    · rintro (h | ⟨j, h1, h2, h3, h4⟩)
      · split at h
        · simp at h
        · rename_i h0
          exact ⟨k, Nat.le_refl k, by omega, h0, by simpa using h⟩
      · exact ⟨j, by omega, by omega, h3, h4⟩
    · rintro ⟨j, h1, h2, h3, h4⟩
      by_cases e : j = k
      · subst e
        exact .inl (by rw [if_neg h3]; simpa using h4)
      · exact .inr ⟨j, by omega, by omega, h3, h4⟩
theorem opts_0 (w : Wheel) (c : Int) (l : List Int) : ∀ d k, opts w 0 c l d k = optC0 w 0 c l d k
  | 0, k => rfl
  | d + 1, k => by
    simp only [opts, optC0, opts_0 w c l d (k + 1)]
    congr 1
    split
    · rfl
    · unfold optK
      rw [if_pos (.inr rfl)]
theorem opts_c0 (w : Wheel) (p : Int) (l : List Int) : ∀ d k, opts w p 0 l d k = optC0 w p 0 l d k
  | 0, k => rfl
  | d + 1, k => by
    simp only [opts, optC0, opts_c0 w p l d (k + 1)]
    have e : optK w p 0 k = [optC w p 0 k] := by
      unfold optK
      rw [if_pos (.inl rfl)]
    rw [e]
def valQ (b : Bool) (w : Wheel) (T : Nat) (l : List Int) (o : Opn) : Int := o.plays + Q b w T o.p o.c (lessP l o.k)
def opt2 (b : Bool) (x y : Int) : Int := cond b (max x y) (min x y)
theorem leB_opt2 (b : Bool) (x y : Int) : leB b x (opt2 b x y) ∧ leB b y (opt2 b x y) ∧ (opt2 b x y = x ∨ opt2 b x y = y) := by
  cases b
  · simp only [leB, opt2, cond_false]; omega
  · simp only [leB, opt2, cond_true]; omega
theorem Q_split (b : Bool) (w : Wheel) (T : Nat) (p c : Int) (l : List Int) (hc : c ≠ 0) (hp : p ≠ 0) (ht : total l ≠ 0) :
    Q b w (T + 1) p c l = opt2 b (pick b ((optC0 w p c l l.length 0).map (valQ b w T l))) (Q b w (T + 1) 0 (c - 1) l) := by
  have h0 : Q b w (T + 1) 0 (c - 1) l = pick b ((optC0 w 0 (c - 1) l l.length 0).map (valQ b w T l)) := by
    simp only [Q, opts_0]
    rfl
  rw [h0]
  obtain ⟨j, h1, h2, _⟩ := opts_ne (w := w) (p := p) (c := c) ht
  have e1 : (optC0 w p c l l.length 0).map (valQ b w T l) ≠ [] := by
    intro e
    have := List.mem_map_of_mem (f := valQ b w T l) (optC0_mem.2 ⟨j, by omega, by omega, h2, rfl⟩ : optC w p c j ∈ optC0 w p c l l.length 0)
    rw [e] at this
    simp at this
  have e2 : (optC0 w 0 (c - 1) l l.length 0).map (valQ b w T l) ≠ [] := by
    intro e
    have := List.mem_map_of_mem (f := valQ b w T l) (optC0_mem.2 ⟨j, by omega, by omega, h2, rfl⟩ : optC w 0 (c - 1) j ∈ optC0 w 0 (c - 1) l l.length 0)
    rw [e] at this
    simp at this
  obtain ⟨a1, a2⟩ := pick_spec b e1
  obtain ⟨b1, b2⟩ := pick_spec b e2
  obtain ⟨m1, m2, m3⟩ := leB_opt2 b (pick b ((optC0 w p c l l.length 0).map (valQ b w T l))) (pick b ((optC0 w 0 (c - 1) l l.length 0).map (valQ b w T l)))
  have vs : ∀ j, valQ b w T l (optS w c j) = valQ b w T l (optC w 0 (c - 1) j) := fun j => rfl
  simp only [Q]
  refine pick_eq b ?_ ?_
  · show _ ∈ (opts w p c l l.length 0).map (valQ b w T l)
    rw [List.mem_map]
    rcases m3 with m3 | m3
    · rw [m3]
      obtain ⟨o, ho, he⟩ := List.mem_map.1 a1
      obtain ⟨j, q1, q2, q3, rfl⟩ := optC0_mem.1 ho
      exact ⟨_, opts_mem.2 ⟨j, q1, q2, q3, optK_mem.2 (.inl rfl)⟩, he⟩
    · rw [m3]
      obtain ⟨o, ho, he⟩ := List.mem_map.1 b1
      obtain ⟨j, q1, q2, q3, rfl⟩ := optC0_mem.1 ho
      exact ⟨optS w c j, opts_mem.2 ⟨j, q1, q2, q3, optK_mem.2 (.inr ⟨hc, hp, rfl⟩)⟩, by rw [vs]; exact he⟩
  · intro v hv
    obtain ⟨o, ho, he⟩ := List.mem_map.1 hv
    obtain ⟨j, q1, q2, q3, q4⟩ := opts_mem.1 ho
    rw [← he]
    rcases optK_mem.1 q4 with rfl | ⟨_, _, rfl⟩
    · exact (a2 _ (List.mem_map_of_mem (f := valQ b w T l) (optC0_mem.2 ⟨j, q1, q2, q3, rfl⟩))).trans m1
    · refine leB.trans ?_ m2
      show leB b (valQ b w T l (optS w c j)) _
      rw [vs]
      exact b2 _ (List.mem_map_of_mem (f := valQ b w T l) (optC0_mem.2 ⟨j, q1, q2, q3, rfl⟩))
def step2 (s : Bool × Int × Int) (v : Int × Int) : Bool × Int × Int := (false, max (cond s.1 v.1 s.2.1) v.1, min (cond s.1 v.2 s.2.2) v.2)
theorem step2_eq (s : Bool × Int × Int) (v : Int × Int) : stepB true (s.1, s.2.1) v.1 = ((step2 s v).1, (step2 s v).2.1) ∧ stepB false (s.1, s.2.2) v.2 = ((step2 s v).1, (step2 s v).2.2) := by
  obtain ⟨f, m, q⟩ := s
  unfold stepB step2
  cases f with
  | true => simp
  | false =>
    simp only [Bool.false_eq_true, false_or, cond_false, cond_true]
    constructor
    · by_cases h : v.1 > m
      · rw [if_pos (by simpa using h), Int.max_eq_right (by omega)]
      · rw [if_neg (by simpa using h), Int.max_eq_left (by omega)]
    · by_cases h : v.2 < q
      · rw [if_pos (by simpa using h), Int.min_eq_right (by omega)]
      · rw [if_neg (by simpa using h), Int.min_eq_left (by omega)]
theorem step2_fold : ∀ (vs : List (Int × Int)) (s : Bool × Int × Int), (vs.map (·.1)).foldl (stepB true) (s.1, s.2.1) = ((vs.foldl step2 s).1, (vs.foldl step2 s).2.1) ∧ (vs.map (·.2)).foldl (stepB false) (s.1, s.2.2) = ((vs.foldl step2 s).1, (vs.foldl step2 s).2.2)
  | [], s => ⟨rfl, rfl⟩
  | v :: vs, s => by
    obtain ⟨e1, e2⟩ := step2_eq s v
    have ih := step2_fold vs (step2 s v)
    simp only [List.map_cons, List.foldl_cons, e1, e2]
    exact ih
theorem step2_first : ∀ (vs : List (Int × Int)) (s : Bool × Int × Int), (vs.foldl step2 s).1 = (s.1 && vs.isEmpty)
  | [], s => by simp
  | v :: vs, s => by
    rw [List.foldl_cons, step2_first vs (step2 s v)]
    simp [step2]
theorem less_eq {l : List Int} {k : Nat} (hk : k < l.length) (hl : l.length < 1048576) (hv : 0 ≤ l.getD k 0 ∧ l.getD k 0 ≤ 1000000) : ref01_less l k = some (lessP l k) := by
  unfold ref01_less
  have e : l.getD k 0 = l[k] := by simp [hk]
  rw [app_nil hl, bnd_some, idx_nat hk, bnd_some, bnd_some, Int.toNat_natCast, w64_id (by omega) (by omega), lessP, e]
theorem all_eq {w : Wheel} (h : OkW w) : ∀ (T : Nat) (z : Bool) (n : Nat) (p c : Int) (l : List Int), (T : Int) = total l → (z = true → p = 0) → 2 * T + (if z = true then 0 else 1) + 300 ≤ n → OkP w l → 0 ≤ p → p < w.Round → 0 ≤ c → c + 100 * T ≤ 1000000 →
    ref01_all n w ⟨p, c⟩ l = some ⟨Q true w T p c l, Q false w T p c l⟩ := by
  have hr1 := h.r1
  intro T
  induction T with
  | zero =>
    intro z n p c l hT hz hn hl hp hp' hc hc2
    obtain ⟨n, rfl⟩ : ∃ m, n = m + 1 := ⟨n - 1, by omega⟩
    have h4 := h.clen
    have hlen := hl.len
    show ref01_all_b n (ref01_all n) w ⟨p, c⟩ l = _
    unfold ref01_all_b
    have key := loopL0 (F := fun m i (_ : Unit) => ref01_all_l1 n (ref01_all n) w ⟨p, c⟩ l m true i 0 0) (xs := l) (spec := fun k _ => if k.all (fun x => decide (x = 0)) = true then ref01_all_j1 n (ref01_all n) w ⟨p, c⟩ l true 0 0 else ref01_all_j1 n (ref01_all n) w ⟨p, c⟩ l true 0 0) (n := n) (by omega) (by omega) ()
      (fun m s => by simp [ref01_all_l1, ref01_all_l1_b])
      (fun m i x k s hx hi hi' _ hrec => by
        have h0 : x = 0 := by
          rw [idx_nat (by omega)] at hx
          have := total_zero hl.nn (by omega) i
          simp only [Option.some.injEq] at hx
          rw [← hx, ← this]
          have hi2 : i < l.length := by omega
          simp [hi2]
        simp only [ref01_all_l1, ref01_all_l1_b]
        rw [if_pos (by simpa using hi), hx, bnd_some, if_pos (by simpa using h0)]
        unfold ref01_all_j4
        rw [hrec ()]
        simp)
    rw [show ref01_all_l1 n (ref01_all n) w ⟨p, c⟩ l n true 0 0 0 = _ from key]
    simp [ref01_all_j1, ref01_all_j3, ref01_all_j2, Q]
  | succ T ih =>
    intro z
    have body : ∀ (n : Nat) (p c : Int) (l : List Int), ((T + 1 : Nat) : Int) = total l → 2 * T + 301 ≤ n → OkP w l → 0 ≤ p → p < w.Round → 0 ≤ c → c + 100 * (T + 1 : Nat) ≤ 1000000 → (∀ rec : Wheel → Stand → List Int → Option Bought, rec = ref01_all n → c = 0 ∨ p = 0 ∨ rec w ⟨0, c - 1⟩ l = some ⟨Q true w (T + 1) 0 (c - 1) l, Q false w (T + 1) 0 (c - 1) l⟩) →
        ref01_all (n + 1) w ⟨p, c⟩ l = some ⟨Q true w (T + 1) p c l, Q false w (T + 1) p c l⟩ := by
      intro n p c l hT hn hl hp hp' hc hc2 hsel
      have hsel := hsel _ rfl
      have h4 := h.clen
      have hlen := hl.len
      have htot := hl.tot
      have hg := getD_le hl.nn
      show ref01_all_b n (ref01_all n) w ⟨p, c⟩ l = _
      unfold ref01_all_b
      have key := loopR (F := fun m i (s : Bool × Int × Int) => ref01_all_l1 n (ref01_all n) w ⟨p, c⟩ l m s.1 i s.2.1 s.2.2) (b := l.length)
        (spec := fun i s => ref01_all_j1 n (ref01_all n) w ⟨p, c⟩ l (((optC0 w p c l (l.length - i) i).map fun o => (valQ true w T l o, valQ false w T l o)).foldl step2 s).1 (((optC0 w p c l (l.length - i) i).map fun o => (valQ true w T l o, valQ false w T l o)).foldl step2 s).2.1 (((optC0 w p c l (l.length - i) i).map fun o => (valQ true w T l o, valQ false w T l o)).foldl step2 s).2.2) (by omega)
        (fun m s => by simp [ref01_all_l1, ref01_all_l1_b, optC0])
        (fun m i s hi hrec => by
          obtain ⟨d, hd⟩ : ∃ d, l.length - i = d + 1 := ⟨l.length - i - 1, by omega⟩
          have hd' : l.length - (i + 1) = d := by omega
          simp only [hd'] at hrec
          simp only [ref01_all_l1, ref01_all_l1_b, hd, optC0]
          have ei : l.getD i 0 = l[i] := by simp [hi]
          rw [if_pos (by simpa using hi), idx_nat hi, bnd_some, ← ei]
          by_cases e : l.getD i 0 = 0
          · rw [if_pos (by simpa using e), if_pos e]
            exact hrec s
          · have hk : i < w.Coins.length := by omega
            have hco := coin_range h (a := (i : Int)) (by omega) (by omega)
            have ht := turn_range h hp hp' (show 0 ≤ coin w i by omega)
            have hl' := hl.less hk e
            have hT' : (T : Int) = total (lessP l i) := by rw [total_less hi]; omega
            rw [if_neg (by simpa using e), if_neg e, Act_eq h (by omega) (s := ⟨p, c⟩) (b := c) ⟨hp, hp', hc, Int.le_refl c⟩ (by omega) (inR_iff.2 ⟨by omega, by omega⟩), bnd_some, less_eq hi (by omega) (by have := hg i; omega), bnd_some]
            have ea : (actS w ⟨p, c⟩ i).1 = ⟨(optC w p c i).p, (optC w p c i).c⟩ := by
              unfold actS
              rw [if_pos (by omega)]
              rfl
            have hn' : 2 * T + (if false = true then 0 else 1) + 300 ≤ n := by simp; omega
            have hcc : (optC w p c i).c + 100 * T ≤ 1000000 := by
              show c + (turn w p (coin w i)).2 + 100 * T ≤ 1000000
              omega
            rw [ea, ih false n (optC w p c i).p (optC w p c i).c (lessP l i) hT' (fun q => by cases q) hn' hl' ht.1.1 ht.1.2 (by show 0 ≤ c + _; omega) hcc, bnd_some]
            have q1 := Q_range true h T (p := (optC w p c i).p) (c := (optC w p c i).c) ht.1.1 ht.1.2 (by show 0 ≤ c + _; omega) hl'
            have q2 := Q_range false h T (p := (optC w p c i).p) (c := (optC w p c i).c) ht.1.1 ht.1.2 (by show 0 ≤ c + _; omega) hl'
            have ew : w64 ((optC w p c i).c - c) = (optC w p c i).plays := by
              rw [show (optC w p c i).c - c = (optC w p c i).plays by show c + (turn w p (coin w i)).2 - c = (turn w p (coin w i)).2; omega]
              exact w64_id (by show -9223372036854775808 ≤ (turn w p (coin w i)).2; omega) (by show (turn w p (coin w i)).2 < 9223372036854775808; omega)
            have hy : 0 ≤ (optC w p c i).plays ∧ (optC w p c i).plays ≤ 100 := by show 0 ≤ (turn w p (coin w i)).2 ∧ (turn w p (coin w i)).2 ≤ 100; omega
            simp only [ref01_all_j5, ref01_all_j4, ea, ew]
            rw [w64_id (x := (optC w p c i).plays + Q true w T _ _ _) (by omega) (by omega), w64_id (x := (optC w p c i).plays + Q false w T _ _ _) (by omega) (by omega)]
            simp only [List.singleton_append, List.map_cons, List.foldl_cons]
            have := hrec (step2 s (valQ true w T l (optC w p c i), valQ false w T l (optC w p c i)))
            rw [← this]
            obtain ⟨f, mo, le⟩ := s
            cases f <;> rfl)
        l.length 0 n (true, 0, 0) (by omega) (by omega) (by omega)
      rw [show ref01_all_l1 n (ref01_all n) w ⟨p, c⟩ l n true 0 0 0 = _ from key, Nat.sub_zero]
      have hne : (((optC0 w p c l l.length 0).map fun o => (valQ true w T l o, valQ false w T l o)).foldl step2 (true, 0, 0)).1 = false := by
        rw [step2_first]
        obtain ⟨j, h1, h2, _⟩ := opts_ne (w := w) (p := p) (c := c) (l := l) (by omega)
        have hm : optC w p c j ∈ optC0 w p c l l.length 0 := optC0_mem.2 ⟨j, by omega, by omega, h2, rfl⟩
        cases hx : optC0 w p c l l.length 0 with
        | nil => rw [hx] at hm; simp at hm
        | cons a b => rfl
      obtain ⟨f1, f2⟩ := step2_fold ((optC0 w p c l l.length 0).map fun o => (valQ true w T l o, valQ false w T l o)) (true, 0, 0)
      have g1 : (((optC0 w p c l l.length 0).map fun o => (valQ true w T l o, valQ false w T l o)).foldl step2 (true, 0, 0)).2.1 = pick true ((optC0 w p c l l.length 0).map (valQ true w T l)) := by
        unfold pick
        rw [List.map_map] at f1
        rw [show (optC0 w p c l l.length 0).map (valQ true w T l) = (optC0 w p c l l.length 0).map ((fun x : Int × Int => x.1) ∘ fun o => (valQ true w T l o, valQ false w T l o)) from rfl, f1]
      have g2 : (((optC0 w p c l l.length 0).map fun o => (valQ true w T l o, valQ false w T l o)).foldl step2 (true, 0, 0)).2.2 = pick false ((optC0 w p c l l.length 0).map (valQ false w T l)) := by
        unfold pick
        rw [List.map_map] at f2
        rw [show (optC0 w p c l l.length 0).map (valQ false w T l) = (optC0 w p c l l.length 0).map ((fun x : Int × Int => x.2) ∘ fun o => (valQ true w T l o, valQ false w T l o)) from rfl, f2]
      rw [hne, g1, g2]
      unfold ref01_all_j1
      rw [if_pos (show (!false) = true from rfl)]
      by_cases e1 : c = 0
      · rw [if_neg (by simp; omega)]
        unfold ref01_all_j3 ref01_all_j2
        rw [if_neg (by simp)]
        simp only [Q, e1, opts_c0]
        rfl
      · rw [if_pos (by simp; omega)]
        by_cases e2 : p = 0
        · rw [show decide (p > 0) = false by simp; omega]
          unfold ref01_all_j3 ref01_all_j2
          rw [if_neg (by simp)]
          simp only [Q, e2, opts_0]
          rfl
        · rw [show decide (p > 0) = true by simp; omega]
          unfold ref01_all_j3 ref01_all_j2
          rw [if_pos rfl, Act_eq h (by omega) (s := ⟨p, c⟩) (b := c) ⟨hp, hp', hc, Int.le_refl c⟩ (by omega) (inR_iff.2 ⟨by omega, by omega⟩), bnd_some]
          have ea : (actS w ⟨p, c⟩ (-1)).1 = ⟨0, c - 1⟩ := by
            unfold actS
            rw [if_neg (by omega), if_neg e1]
          rw [ea, (hsel.resolve_left e1).resolve_left e2, bnd_some, Q_split true w T p c l e1 e2 (by omega), Q_split false w T p c l e1 e2 (by omega)]
          rfl
    cases z with
    | true =>
      intro n p c l hT hz hn hl hp hp' hc hc2
      obtain ⟨n, rfl⟩ : ∃ m, n = m + 1 := ⟨n - 1, by omega⟩
      exact body n p c l hT (by simp at hn; omega) hl hp hp' hc hc2 (fun _ _ => .inr (.inl (hz rfl)))
    | false =>
      intro n p c l hT hz hn hl hp hp' hc hc2
      obtain ⟨n, rfl⟩ : ∃ m, n = m + 1 := ⟨n - 1, by omega⟩
      refine body n p c l hT (by simp at hn; omega) hl hp hp' hc hc2 (fun rec hrec => ?_)
      by_cases e1 : c = 0
      · exact .inl e1
      · refine .inr (.inr ?_)
        obtain ⟨n, rfl⟩ : ∃ m, n = m + 1 := ⟨n - 1, by simp at hn; omega⟩
        rw [hrec]
        exact body n 0 (c - 1) l hT (by simp at hn; omega) hl (by omega) (by omega) (by omega) (by omega) (fun _ _ => .inr (.inl rfl))
def isPurse (w : Wheel) (l : List Int) : Bool := decide (l.length = w.Coins.length) && l.all (fun x => inR x 0 12) && decide (total l ≤ 12)
theorem purse_ok {w : Wheel} {l : List Int} (h : isPurse w l = true) : OkP w l ∧ total l ≤ 12 := by
  simp only [isPurse, Bool.and_eq_true, decide_eq_true_eq, List.all_eq_true] at h
  exact ⟨⟨h.1.1, fun x hx => (inR_iff.1 (h.1.2 x hx)).1, by omega⟩, h.2⟩
theorem IsPurse_eq {n : Nat} {w : Wheel} (hw : w.Coins.length < 100000) (hn : w.Coins.length < n) (l : List Int) : ref01_IsPurse n w l = some (isPurse w l) := by
  unfold ref01_IsPurse isPurse
  by_cases hl : l.length = w.Coins.length
  · rw [if_neg (by simp; omega)]
    have key := loopI (F := fun m i (s : Int) => ref01_IsPurse_l1 l m s i) (xs := l) (spec := fun k s => some (k.all (fun x => inR x 0 12) && decide (s + total k ≤ 12))) (I := fun k s => 0 ≤ s ∧ s + 12 * k.length ≤ 100000000) (by omega)
      (fun m s hI => by simp [ref01_IsPurse_l1, ref01_IsPurse_l1_b, ref01_IsPurse_j1, total])
      (fun m i x k s hI hx hi _ _ hrec => by
        simp only [List.length_cons] at hI
        simp only [ref01_IsPurse_l1, ref01_IsPurse_l1_b]
        rw [if_pos (by simpa using hi), hx, bnd_some, Within_eq, bnd_some, bnd_some]
        by_cases q : inR x 0 12 = true
        · have := inR_iff.1 q
          rw [if_neg (by simp [q]), w64_id (x := s + x) (by omega) (by omega), hrec (s + x) ⟨by omega, by omega⟩]
          have e : s + total (x :: k) = s + x + total k := by simp only [total]; omega
          rw [e]
          simp only [List.all_cons, q, Bool.true_and]
        · rw [if_pos (by simpa using q)]
          simp [q])
      l 0 n 0 (by omega) rfl (by omega) ⟨by omega, by omega⟩
    rw [show ref01_IsPurse_l1 l n 0 0 = _ from key]
    simp [hl]
  · rw [if_pos (by simp; omega)]
    simp [hl]
theorem total_le : ∀ {l : List Int}, (∀ x, x ∈ l → 0 ≤ x ∧ x ≤ 12) → total l ≤ 12 * l.length
  | [], _ => by simp [total]
  | x :: l, h => by
    have h1 := h x (by simp)
    have h2 := total_le (l := l) (fun y hy => h y (by simp [hy]))
    simp only [total, List.length_cons]
    omega
theorem total_append : ∀ (a b : List Int), total (a ++ b) = total a + total b
  | [], b => by simp [total]
  | x :: a, b => by
    simp only [List.cons_append, total]
    rw [total_append a b]
    omega
theorem seek_c1 {n : Nat} {w : Wheel} (h : OkW w) (hn : 100 ≤ n) (l : List Int) (hl : l.length < 100000) (hn2 : l.length < n) : ∃ st, coins_seek_c1 n ⟨w⟩ l (spot [] 0 0) = some (isPurse w l, st) ∧ (isPurse w l = true → st = spot l 0 0) := by
  have h4 := h.clen
  have key : ∀ (k pre : List Int) (m : Nat) (s : Int), l = pre ++ k → k.length < m → pre.length ≤ w.Coins.length → s = total pre → (∀ x, x ∈ pre → 0 ≤ x ∧ x ≤ 12) →
      ∃ st, coins_seek_c1_l1 ⟨w⟩ (spot [] 0 0) l m s (pre.length : Int) (pre.getD 0 0) (pre.getD 1 0) (pre.getD 2 0) (pre.getD 3 0) = some (isPurse w l, st) ∧ (isPurse w l = true → st = spot l 0 0) := by
    intro k
    induction k with
    | nil =>
      intro pre m s he hm hpl hs hx
      obtain ⟨m, rfl⟩ : ∃ q, m = q + 1 := ⟨m - 1, by omega⟩
      rw [List.append_nil] at he
      subst he
      have hall : l.all (fun x => inR x 0 12) = true := List.all_eq_true.2 fun x hx' => inR_iff.2 (hx x hx')
      simp only [coins_seek_c1_l1, coins_seek_c1_l1_b]
      rw [if_neg (by simp)]
      unfold coins_seek_c1_j1 coins_seek_c1_j2 isPurse
      rw [hall]
      by_cases e : l.length = w.Coins.length
      · rw [if_pos (by simp; omega)]
        exact ⟨spot l 0 0, by simp [e, hs]; rfl, fun _ => rfl⟩
      · rw [if_neg (by simp; omega)]
        exact ⟨spot l 0 0, by simp [e]; rfl, fun q => by simp [e] at q⟩
    | cons x k ih =>
      intro pre m s he hm hpl hs hx
      obtain ⟨m, rfl⟩ : ∃ q, m = q + 1 := ⟨m - 1, by omega⟩
      simp only [List.length_cons] at hm
      have hlen : l.length = pre.length + (k.length + 1) := by rw [he]; simp
      have hxi : idx l (pre.length : Int) = some x := by rw [he, idx_mid]
      simp only [coins_seek_c1_l1, coins_seek_c1_l1_b]
      rw [if_pos (by simp; omega), hxi, bnd_some]
      by_cases e : pre.length ≥ w.Coins.length
      · rw [if_pos (by simp; omega)]
        unfold coins_seek_c1_j3
        rw [if_pos rfl]
        have hf : isPurse w l = false := by
          unfold isPurse
          rw [show decide (l.length = w.Coins.length) = false by simp; omega]
          rfl
        rw [hf]
        exact ⟨_, rfl, fun q => by cases q⟩
      · rw [if_neg (by simp; omega), within_eq, bnd_some]
        unfold coins_seek_c1_j3
        by_cases q : inR x 0 12 = true
        · have hxr := inR_iff.1 q
          have hb := total_nn (l := pre) (fun y hy => (hx y hy).1)
          have hb2 := total_le hx
          rw [if_neg (by simp [q])]
          have hset : setI ([pre.getD 0 0, pre.getD 1 0, pre.getD 2 0, pre.getD 3 0] : List Int) (pre.length : Int) x = some (bag4 (pre ++ [x])) := by
            match pre, (show pre.length < 4 by omega) with
            | [], _ => rfl
            | [a], _ => rfl
            | [a, b], _ => rfl
            | [a, b, c], _ => rfl
          have hidx : ∃ y, idx ([pre.getD 0 0, pre.getD 1 0, pre.getD 2 0, pre.getD 3 0] : List Int) (pre.length : Int) = some y := ⟨_, idx_nat (by simp; omega)⟩
          obtain ⟨y, hy⟩ := hidx
          rw [hy, bnd_some, hset, bnd_some, w64_id (x := s + x) (by omega) (by omega), w64_id (x := (pre.length : Int) + 1) (by omega) (by omega)]
          have := ih (pre ++ [x]) m (s + x) (by simp [he]) (by omega) (by simp; omega) (by
            rw [hs, total_append]
            simp [total]) (fun z hz => by
            rcases List.mem_append.1 hz with hz | hz
            · exact hx z hz
            · simp only [List.mem_singleton] at hz
              subst hz
              exact hxr)
          rw [show (((pre ++ [x]).length : Nat) : Int) = (pre.length : Int) + 1 by simp] at this
          exact this
        · rw [if_pos (by simpa using q)]
          have hf : isPurse w l = false := by
            unfold isPurse
            have : l.all (fun x => inR x 0 12) = false := by
              rw [he, List.all_append, List.all_cons, show inR x 0 12 = false by simpa using q]
              simp
            rw [this]
            simp
          rw [hf]
          exact ⟨_, rfl, fun q => by cases q⟩
  exact key l [] n 0 rfl hn2 (by simp) rfl (fun x hx => by simp at hx)
theorem open_eqS {S : Type} {n : Nat} {w : Wheel} (hl : okLen n w) (aF : Wheel_ → S → Option (Bool × S)) (s s' : S) (b : Bool) (ha : valid w = true → aF ⟨w⟩ s = some (b, s')) :
    ∃ s0, coins_open n aF w s = some (cond (valid w) (cond b (((⟨w⟩ : Wheel_), 0), s') ((zw, 1), s')) ((zw, 10), s0)) ∧ (valid w = true → s0 = s0) := by
  unfold coins_open
  rw [Check_eq hl, bnd_some]
  cases hv : valid w with
  | false => exact ⟨s, rfl, fun _ => rfl⟩
  | true =>
    rw [ha hv]
    cases b <;> exact ⟨s, rfl, fun _ => rfl⟩
theorem seek_eq {n : Nat} {w : Wheel} (hw : okLen n w) (hn : 100 ≤ n) (l : List Int) (hl : l.length < 100000) (hn2 : l.length < n) (b : Bool) :
    coins_seek n w l b = some (if valid w = true then (if isPurse w l = true then (some ⟨w⟩, spot l 0 0, 0) else (none, spot [] 0 0, 1)) else (none, spot [] 0 0, 10)) := by
  unfold coins_seek
  by_cases hv : valid w = true
  · have h := valid_ok hv
    obtain ⟨st, h1, h2⟩ := seek_c1 h hn l hl hn2
    obtain ⟨s0, h3, _⟩ := open_eqS hw (fun (x0 : Wheel_) s => coins_seek_c1 n x0 l s) (spot [] 0 0) st (isPurse w l) (fun _ => h1)
    rw [show (⟨⟨0, 0, 0, 0⟩, 0, 0⟩ : Spot_) = spot [] 0 0 from rfl, h3, bnd_some, hv]
    cases hp : isPurse w l with
    | true => simp [h2 hp]
    | false => simp
  · have hv' : valid w = false := by simpa using hv
    obtain ⟨s0, h3, _⟩ := open_eqS hw (fun (x0 : Wheel_) s => coins_seek_c1 n x0 l s) (spot [] 0 0) (spot [] 0 0) true (fun q => by rw [hv'] at q; cases q)
    rw [show (⟨⟨0, 0, 0, 0⟩, 0, 0⟩ : Spot_) = spot [] 0 0 from rfl, h3, bnd_some, hv']
    simp
def bestS (b : Bool) (w : Wheel) (l : List Int) : Int × Int :=
  if valid w = true then (if isPurse w l = true then (Q b w (total l).toNat 0 0 l, 0) else (0, 1)) else (0, 10)
theorem buys_start {n : Nat} {b : Bool} {w : Wheel} (h : OkW w) (hn : 400 ≤ n) {l : List Int} (hp : isPurse w l = true) {M : List (Spot_ × Int)} (hM : InvM b w M) : ∃ M', coins_search_buys n (⟨w⟩, b) (spot l 0 0) M = some (Q b w (total l).toNat 0 0 l, M') ∧ InvM b w M' := by
  obtain ⟨hl, h12⟩ := purse_ok hp
  have := total_nn hl.nn
  have := h.r1
  exact buys_eq h (total l).toNat n 0 0 l M (by omega) (by omega) hl (by omega) (by omega) (by omega) (by omega) hM
theorem Most_eq {n : Nat} {w : Wheel} (hw : okLen n w) (hn : 400 ≤ n) (l : List Int) (hl : l.length < 100000) (hn2 : l.length < n) : coins_Most n w l = some (bestS true w l) := by
  unfold coins_Most bestS
  rw [seek_eq hw (by omega) l hl hn2, bnd_some]
  by_cases hv : valid w = true
  · rw [if_pos hv, if_pos hv]
    by_cases hp : isPurse w l = true
    · obtain ⟨M', h1, _⟩ := buys_start (valid_ok hv) hn hp (InvM.nil true w)
      rw [if_pos hp, if_pos hp]
      simp only [Option.isSome_some, if_true, bnd_some, bne_self_eq_false, Bool.false_eq_true, if_false]
      rw [h1, bnd_some]
    · rw [if_neg hp, if_neg hp]
      rfl
  · rw [if_neg hv, if_neg hv]
    rfl
theorem Least_eq {n : Nat} {w : Wheel} (hw : okLen n w) (hn : 400 ≤ n) (l : List Int) (hl : l.length < 100000) (hn2 : l.length < n) : coins_Least n w l = some (bestS false w l) := by
  unfold coins_Least bestS
  rw [seek_eq hw (by omega) l hl hn2, bnd_some]
  by_cases hv : valid w = true
  · rw [if_pos hv, if_pos hv]
    by_cases hp : isPurse w l = true
    · obtain ⟨M', h1, _⟩ := buys_start (valid_ok hv) hn hp (InvM.nil false w)
      rw [if_pos hp, if_pos hp]
      simp only [Option.isSome_some, if_true, bnd_some, bne_self_eq_false, Bool.false_eq_true, if_false]
      rw [h1, bnd_some]
    · rw [if_neg hp, if_neg hp]
      rfl
  · rw [if_neg hv, if_neg hv]
    rfl
theorem all_start {n : Nat} {w : Wheel} (h : OkW w) (hn : 400 ≤ n) {l : List Int} (hl : OkP w l) (h12 : total l ≤ 12) : ref01_all n w ⟨0, 0⟩ l = some ⟨Q true w (total l).toNat 0 0 l, Q false w (total l).toNat 0 0 l⟩ := by
  have := total_nn hl.nn
  have := h.r1
  exact all_eq h (total l).toNat true n 0 0 l (by omega) (fun _ => rfl) (by simp; omega) hl (by omega) (by omega) (by omega) (by omega)
theorem rMost_eq {n : Nat} {w : Wheel} (hw : okLen n w) (hn : 400 ≤ n) (l : List Int) (hl : l.length < 100000) (hn2 : l.length < n) : ref01_Most n w l = some (bestS true w l) := by
  unfold ref01_Most bestS
  rw [rCheck_eq hw, bnd_some]
  cases hv : valid w with
  | false => rfl
  | true =>
    have h := valid_ok hv
    simp only [cond_true, bne_self_eq_false, Bool.false_eq_true, if_false, if_true]
    rw [IsPurse_eq (by have := h.clen; omega) hw.2.2.2, bnd_some]
    cases hp : isPurse w l with
    | false => rfl
    | true =>
      obtain ⟨hok, h12⟩ := purse_ok hp
      simp only [Bool.not_true, Bool.false_eq_true, if_false, if_true]
      rw [all_start h hn hok h12, bnd_some]
theorem rLeast_eq {n : Nat} {w : Wheel} (hw : okLen n w) (hn : 400 ≤ n) (l : List Int) (hl : l.length < 100000) (hn2 : l.length < n) : ref01_Least n w l = some (bestS false w l) := by
  unfold ref01_Least bestS
  rw [rCheck_eq hw, bnd_some]
  cases hv : valid w with
  | false => rfl
  | true =>
    have h := valid_ok hv
    simp only [cond_true, bne_self_eq_false, Bool.false_eq_true, if_false, if_true]
    rw [IsPurse_eq (by have := h.clen; omega) hw.2.2.2, bnd_some]
    cases hp : isPurse w l with
    | false => rfl
    | true =>
      obtain ⟨hok, h12⟩ := purse_ok hp
      simp only [Bool.not_true, Bool.false_eq_true, if_false, if_true]
      rw [all_start h hn hok h12, bnd_some]
def buysL (w : Wheel) : Stand → List Int → Int
  | _, [] => 0
  | s, a :: l => (if 0 ≤ a then (turn w s.Place (coin w a)).2 else 0) + buysL w (actS w s a).1 l
def cnt (k : Int) : List Int → Int
  | [] => 0
  | a :: l => (if a = k then 1 else 0) + cnt k l
structure Way (w : Wheel) (s : Stand) (l acts : List Int) (q : Int) : Prop where
  ok : acts.all (okAct w) = true
  len : (acts.length : Int) ≤ 2 * total l
  bag : ∀ k : Nat, k < w.Coins.length → cnt k acts = l.getD k 0
  buys : buysL w s acts = q
theorem lessP_getD {l : List Int} {k j : Nat} (hk : k < l.length) : (lessP l k).getD j 0 = l.getD j 0 - (if k = j then 1 else 0) := by
  unfold lessP
  by_cases e : k = j
  · subst e
    rw [if_pos rfl, List.getD_eq_getElem?_getD, List.getElem?_set_self hk]
    rfl
  · rw [if_neg e, List.getD_eq_getElem?_getD, List.getElem?_set_ne e, ← List.getD_eq_getElem?_getD]
    omega
theorem okAct_k {w : Wheel} {k : Nat} (h : k < w.Coins.length) : okAct w k = true := inR_iff.2 ⟨by omega, by omega⟩
theorem okAct_s {w : Wheel} : okAct w (-1) = true := inR_iff.2 ⟨by omega, by omega⟩
theorem actS_k (w : Wheel) (p c : Int) (k : Nat) : actS w ⟨p, c⟩ (k : Int) = (⟨(optC w p c k).p, (optC w p c k).c⟩, false) := by
  unfold actS
  rw [if_pos (by omega)]
  rfl
theorem actS_s (w : Wheel) (p c : Int) (hc : c ≠ 0) : actS w ⟨p, c⟩ (-1) = (⟨0, c - 1⟩, true) := by
  unfold actS
  rw [if_neg (by omega), if_neg hc]
theorem Way.step {w : Wheel} {p c : Int} {l acts : List Int} {q : Int} {o : Opn} (hl : OkP w l) (hc : 0 ≤ c) (ho : o ∈ opts w p c l l.length 0) (h : Way w ⟨o.p, o.c⟩ (lessP l o.k) acts q) : Way w ⟨p, c⟩ l (o.acts ++ acts) (o.plays + q) := by
  obtain ⟨j, _, h2, h3, h4⟩ := opts_mem.1 ho
  have hj : j < l.length := by omega
  have hj' : j < w.Coins.length := by have := hl.len; omega
  rcases optK_mem.1 h4 with rfl | ⟨h5, h6, rfl⟩
  · refine ⟨?_, ?_, fun k hk => ?_, ?_⟩
    · show List.all ([(j : Int)] ++ acts) (okAct w) = true
      rw [List.singleton_append, List.all_cons, okAct_k hj', h.ok]
      rfl
    · have := h.len
      have e := total_less hj
      show ((([(j : Int)] ++ acts).length : Nat) : Int) ≤ _
      rw [show (optC w p c j).k = j from rfl] at this
      simp
      omega
    · show cnt k ((j : Int) :: acts) = _
      simp only [cnt]
      rw [h.bag k hk, show (optC w p c j).k = j from rfl, lessP_getD hj]
      by_cases e : j = k
      · rw [if_pos (by omega), if_pos e]; omega
      · rw [if_neg (by omega), if_neg e]; omega
    · show buysL w ⟨p, c⟩ ((j : Int) :: acts) = _
      simp only [buysL]
      rw [if_pos (by omega), actS_k, h.buys]
      rfl
  · refine ⟨?_, ?_, fun k hk => ?_, ?_⟩
    · show List.all ([-1, (j : Int)] ++ acts) (okAct w) = true
      rw [List.cons_append, List.singleton_append, List.all_cons, List.all_cons, okAct_k hj', okAct_s, h.ok]
      rfl
    · have := h.len
      have e := total_less hj
      show ((([-1, (j : Int)] ++ acts).length : Nat) : Int) ≤ _
      rw [show (optS w c j).k = j from rfl] at this
      simp
      omega
    · show cnt k (-1 :: (j : Int) :: acts) = _
      simp only [cnt]
      rw [h.bag k hk, show (optS w c j).k = j from rfl, lessP_getD hj, if_neg (by omega)]
      by_cases e : j = k
      · rw [if_pos (by omega), if_pos e]; omega
      · rw [if_neg (by omega), if_neg e]; omega
    · show buysL w ⟨p, c⟩ (-1 :: (j : Int) :: acts) = _
      simp only [buysL]
      rw [if_neg (by omega), actS_s w p c h5]
      simp only []
      rw [if_pos (by omega), actS_k]
      rw [show (⟨(optC w 0 (c - 1) j).p, (optC w 0 (c - 1) j).c⟩ : Stand) = ⟨(optS w c j).p, (optS w c j).c⟩ from rfl, h.buys]
      show 0 + ((turn w 0 (coin w j)).2 + q) = (turn w 0 (coin w j)).2 + q
      omega
theorem opts_nil {w : Wheel} {p c : Int} {l : List Int} (hl : OkP w l) (h0 : total l = 0) : opts w p c l l.length 0 = [] := by
  rw [List.eq_nil_iff_forall_not_mem]
  intro o ho
  obtain ⟨j, _, _, h3, _⟩ := opts_mem.1 ho
  exact h3 (total_zero hl.nn h0 j)
theorem Q_some {w : Wheel} {T : Nat} {p c : Int} {l : List Int} (b : Bool) (h0 : total l ≠ 0) : ∃ o, o ∈ opts w p c l l.length 0 ∧ o.plays + Q b w T o.p o.c (lessP l o.k) = Q b w (T + 1) p c l := by
  obtain ⟨j, h1, h2, h3⟩ := opts_ne (w := w) (p := p) (c := c) h0
  have e : ((opts w p c l l.length 0).map fun o => o.plays + Q b w T o.p o.c (lessP l o.k)) ≠ [] := by
    intro e
    rw [List.map_eq_nil_iff] at e
    rw [e] at h3
    simp at h3
  obtain ⟨a1, _⟩ := pick_spec b e
  obtain ⟨o, ho, he⟩ := List.mem_map.1 a1
  exact ⟨o, ho, he⟩
theorem order_fold {n : Nat} {w : Wheel} {l out : List Int} {T : Nat} {want : Int} {x : Spot_}
    (rec : ∀ o, OkO w 2000 l o → ∀ M, InvM true w M → ∃ M', coins_search_buys n (⟨w⟩, true) (spot (lessP l o.k) o.p o.c) M = some (Q true w T o.p o.c (lessP l o.k), M') ∧ InvM true w M')
    (hq : ∀ o, OkO w 2000 l o → 0 ≤ Q true w T o.p o.c (lessP l o.k) ∧ Q true w T o.p o.c (lessP l o.k) ≤ 1000000) (hout : out.length ≤ 1000) :
    ∀ (os : List Opn), (∀ o, o ∈ os → OkO w 2000 l o ∧ o.acts.length ≤ 2) → (∃ o, o ∈ os ∧ o.plays + Q true w T o.p o.c (lessP l o.k) = want) → ∀ (f : Bool) (M : List (Spot_ × Int)), InvM true w M →
      ∃ o M', o ∈ os ∧ o.plays + Q true w T o.p o.c (lessP l o.k) = want ∧ runY (fun o s => coins_Order_c1 n o.acts (spot (lessP l o.k) o.p o.c) o.plays (⟨w⟩, true) want s) os (out, x, f, M) =
        some (out ++ o.acts, spot (lessP l o.k) o.p o.c, true, M') ∧ InvM true w M'
  | [], _, ⟨o, h, _⟩, f, M, hM => by simp at h
  | o :: os, ho, hex, f, M, hM => by
    obtain ⟨ok, hal⟩ := ho o (by simp)
    obtain ⟨M1, h1, h2⟩ := rec o ok M hM
    have hr := hq o ok
    have y0 := ok.y0
    have y1 := ok.y1
    by_cases e : o.plays + Q true w T o.p o.c (lessP l o.k) = want
    · refine ⟨o, M1, by simp, e, ?_, h2⟩
      simp only [runY]
      unfold coins_Order_c1
      simp only []
      rw [h1, bnd_some]
      simp only []
      rw [w64_id (by omega) (by omega), if_neg (by simp [e]), app_ok (by omega), bnd_some, bnd_some]
      simp
    · obtain ⟨o', M2, a1, a2, a3, a4⟩ := order_fold rec hq hout os (fun o' h' => ho o' (by simp [h'])) (by
        obtain ⟨o', b1, b2⟩ := hex
        rcases List.mem_cons.1 b1 with rfl | b1
        · exact (e b2).elim
        · exact ⟨o', b1, b2⟩) f M1 h2
      refine ⟨o', M2, by simp [a1], a2, ?_, a4⟩
      simp only [runY]
      rw [show coins_Order_c1 n o.acts (spot (lessP l o.k) o.p o.c) o.plays (⟨w⟩, true) want (out, x, f, M) = some (true, (out, x, f, M1)) by
        unfold coins_Order_c1
        simp only []
        rw [h1, bnd_some]
        simp only []
        rw [w64_id (by omega) (by omega), if_pos (by simp [e])], bnd_some]
      simp only [if_true]
      exact a3
theorem opts_acts {w : Wheel} {p c : Int} {l : List Int} {o : Opn} (ho : o ∈ opts w p c l l.length 0) : o.acts.length ≤ 2 := by
  obtain ⟨j, _, _, _, h4⟩ := opts_mem.1 ho
  rcases optK_mem.1 h4 with rfl | ⟨_, _, rfl⟩
  · show 1 ≤ 2; omega
  · show 2 ≤ 2; omega
theorem order_l {n : Nat} {w : Wheel} (h : OkW w) (hn : 400 ≤ n) : ∀ (T m : Nat) (p c : Int) (l out : List Int) (M : List (Spot_ × Int)), (T : Int) = total l → T + 2 ≤ m → T ≤ 12 → OkP w l → 0 ≤ p → p < w.Round → 0 ≤ c → c + 100 * T ≤ 1900 → out.length + 2 * T ≤ 100 → InvM true w M →
    ∃ acts, coins_Order_l1 n ⟨w⟩ m true out (spot l p c).left.c0 (spot l p c).left.c1 (spot l p c).left.c2 (spot l p c).left.c3 (spot l p c).place (spot l p c).credit M = some (out ++ acts, 0) ∧ Way w ⟨p, c⟩ l acts (Q true w T p c l) := by
  intro T
  induction T with
  | zero =>
    intro m p c l out M hT hm h12 hl hp hp' hc hc2 ho hM
    obtain ⟨m, rfl⟩ : ∃ k, m = k + 2 := ⟨m - 2, by omega⟩
    obtain ⟨M1, b1, b2⟩ := buys_eq (b := true) h 0 n p c l M hT (by omega) hl hp hp' hc (by omega) hM
    refine ⟨[], ?_, rfl, by simp; omega, fun k hk => by rw [total_zero hl.nn (by omega) k]; rfl, rfl⟩
    have e1 : coins_Order_l1 n ⟨w⟩ (m + 2) true out (spot l p c).left.c0 (spot l p c).left.c1 (spot l p c).left.c2 (spot l p c).left.c3 (spot l p c).place (spot l p c).credit M =
        Option.bind (coins_search_buys n (⟨w⟩, true) (spot l p c) M) fun r19 =>
          Option.bind (coins_search_next n (fun (x0 : List Int) (x1 : Spot_) (x2 : Int) s => coins_Order_c1 n x0 x1 x2 (⟨w⟩, true) r19.1 s) (⟨w⟩, true) (spot l p c) (out, spot l p c, false, r19.2)) fun r20 =>
            coins_Order_l1 n ⟨w⟩ (m + 1) r20.2.2.2.1 r20.2.1 r20.2.2.1.left.c0 r20.2.2.1.left.c1 r20.2.2.1.left.c2 r20.2.2.1.left.c3 r20.2.2.1.place r20.2.2.1.credit r20.2.2.2.2 := rfl
    rw [e1, b1, bnd_some, next_eq h (by omega) hp hp' hc (by omega) hl, opts_nil hl (by omega)]
    simp only [runY, Option.map_some, bnd_some]
    simp [coins_Order_l1, coins_Order_l1_b, coins_Order_j1]
  | succ T ih =>
    intro m p c l out M hT hm h12 hl hp hp' hc hc2 ho hM
    obtain ⟨m, rfl⟩ : ∃ k, m = k + 1 := ⟨m - 1, by omega⟩
    obtain ⟨M1, b1, b2⟩ := buys_eq (b := true) h (T + 1) n p c l M hT (by omega) hl hp hp' hc (by omega) hM
    have e1 : coins_Order_l1 n ⟨w⟩ (m + 1) true out (spot l p c).left.c0 (spot l p c).left.c1 (spot l p c).left.c2 (spot l p c).left.c3 (spot l p c).place (spot l p c).credit M =
        Option.bind (coins_search_buys n (⟨w⟩, true) (spot l p c) M) fun r19 =>
          Option.bind (coins_search_next n (fun (x0 : List Int) (x1 : Spot_) (x2 : Int) s => coins_Order_c1 n x0 x1 x2 (⟨w⟩, true) r19.1 s) (⟨w⟩, true) (spot l p c) (out, spot l p c, false, r19.2)) fun r20 =>
            coins_Order_l1 n ⟨w⟩ m r20.2.2.2.1 r20.2.1 r20.2.2.1.left.c0 r20.2.2.1.left.c1 r20.2.2.1.left.c2 r20.2.2.1.left.c3 r20.2.2.1.place r20.2.2.1.credit r20.2.2.2.2 := rfl
    rw [e1, b1, bnd_some, next_eq h (by omega) hp hp' hc (by omega) hl]
    have hok : ∀ o, o ∈ opts w p c l l.length 0 → OkO w 2000 l o ∧ o.acts.length ≤ 2 := fun o ho => by
      have := opts_ok h hp hp' hc hl ho
      exact ⟨⟨this.k, this.nz, this.p0, this.p1, this.c0, by have := this.c1; omega, this.y0, this.y1⟩, opts_acts ho⟩
    obtain ⟨o, M2, a1, a2, a3, a4⟩ := order_fold (n := n) (w := w) (l := l) (out := out) (T := T) (want := Q true w (T + 1) p c l) (x := spot l p c)
      (fun o ok M0 hM0 => buys_eq h T n o.p o.c (lessP l o.k) M0 (by rw [total_less (by rw [hl.len]; exact ok.k)]; omega) (by omega) (hl.less ok.k ok.nz) ok.p0 ok.p1 ok.c0 (by have := ok.c1; omega) hM0)
      (fun o ok => by
        have := Q_range true h T ok.p0 ok.p1 ok.c0 (hl.less ok.k ok.nz)
        omega) (by omega) _ hok (Q_some true (by omega)) false M1 b2
    have okO := opts_ok h hp hp' hc hl a1
    have hal := opts_acts a1
    rw [a3, Option.map_some, bnd_some]
    obtain ⟨acts, c1, c2⟩ := ih m o.p o.c (lessP l o.k) (out ++ o.acts) M2 (by rw [total_less (by rw [hl.len]; exact okO.k)]; omega) (by omega) (by omega) (hl.less okO.k okO.nz) okO.p0 okO.p1 okO.c0 (by have := okO.c1; omega) (by simp; omega) a4
    refine ⟨o.acts ++ acts, ?_, a2 ▸ c2.step hl hc a1⟩
    rw [← List.append_assoc]
    exact c1
def orderS (w : Wheel) (l : List Int) (r : List Int × Int) : Prop :=
  if valid w = true then (if isPurse w l = true then r.2 = 0 ∧ Way w ⟨0, 0⟩ l r.1 (Q true w (total l).toNat 0 0 l) else r = ([], 1)) else r = ([], 10)
theorem Order_eq {n : Nat} {w : Wheel} (hw : okLen n w) (hn : 400 ≤ n) (l : List Int) (hl : l.length < 100000) (hn2 : l.length < n) : ∃ r, coins_Order n w l = some r ∧ orderS w l r := by
  unfold coins_Order orderS
  rw [seek_eq hw (by omega) l hl hn2, bnd_some]
  by_cases hv : valid w = true
  · rw [if_pos hv]
    simp only [if_pos hv]
    by_cases hp : isPurse w l = true
    · have h := valid_ok hv
      obtain ⟨hok, h12⟩ := purse_ok hp
      have := total_nn hok.nn
      have := h.r1
      obtain ⟨acts, h1, h2⟩ := order_l h hn (total l).toNat n 0 0 l [] [] (by omega) (by omega) (by omega) hok (by omega) (by omega) (by omega) (by omega) (by simp; omega) (InvM.nil true w)
      rw [if_pos hp]
      simp only [if_pos hp]
      simp only [Option.isSome_some, if_true, bnd_some, bne_self_eq_false, Bool.false_eq_true, if_false]
      exact ⟨_, h1, rfl, by simpa using h2⟩
    · rw [if_neg hp]
      simp only [if_neg hp]
      exact ⟨_, rfl, rfl⟩
  · rw [if_neg hv]
    simp only [if_neg hv]
    exact ⟨_, rfl, rfl⟩
def bagL (w : Wheel) (acts : List Int) : List Int := (List.range w.Coins.length).map fun (k : Nat) => cnt (k : Int) acts
theorem bag_l2 {n : Nat} (rec1 : List Int → Int → Option (List Int)) (acts v2 : List Int) (v3 : Int) (hl : acts.length < 100000) (hn : acts.length < n) : ref01_Bag_l2 rec1 acts v2 v3 n 0 0 = ref01_Bag_j3 rec1 v2 v3 (cnt v3 acts) := by
  have key := loopI (F := fun m i (s : Int) => ref01_Bag_l2 rec1 acts v2 v3 m s i) (xs := acts) (spec := fun k s => ref01_Bag_j3 rec1 v2 v3 (s + cnt v3 k)) (I := fun k s => 0 ≤ s ∧ s + k.length ≤ 1000000) (by omega)
    (fun m s hI => by simp [ref01_Bag_l2, ref01_Bag_l2_b, cnt])
    (fun m i x k s hI hx hi _ _ hrec => by
      simp only [List.length_cons] at hI
      simp only [ref01_Bag_l2, ref01_Bag_l2_b, ref01_Bag_j4]
      rw [if_pos (by simpa using hi), hx, bnd_some]
      by_cases e : x = v3
      · rw [if_pos (by simpa using e), w64_id (x := s + 1) (by omega) (by omega), hrec (s + 1) ⟨by omega, by omega⟩]
        simp only [cnt, if_pos e]
        rw [show s + 1 + cnt v3 k = s + (1 + cnt v3 k) by omega]
      · rw [if_neg (by simpa using e), hrec s ⟨by omega, by omega⟩]
        simp only [cnt, if_neg e]
        rw [show s + cnt v3 k = s + (0 + cnt v3 k) by omega])
    acts 0 n 0 (by omega) rfl hn ⟨by omega, by omega⟩
  rw [show ref01_Bag_l2 rec1 acts v2 v3 n 0 0 = _ from key, Int.zero_add]
theorem Bag_eq {n : Nat} (w : Wheel) (acts : List Int) (hw : w.Coins.length < 100000) (hn : w.Coins.length < n) (hl : acts.length < 100000) (hn2 : acts.length < n) : ref01_Bag n w acts = some (bagL w acts) := by
  have key := loopR (F := fun m i (s : List Int) => if s.length = i.toNat then ref01_Bag_l1 n w acts m s i else some (s ++ ((List.range' i.toNat (w.Coins.length - i.toNat)).map fun (k : Nat) => cnt (k : Int) acts))) (b := w.Coins.length)
    (spec := fun i s => some (s ++ ((List.range' i (w.Coins.length - i)).map fun (k : Nat) => cnt (k : Int) acts))) (by omega)
    (fun m s => by
      simp only [Int.toNat_natCast]
      split
      · simp [ref01_Bag_l1, ref01_Bag_l1_b, ref01_Bag_j1]
      · rfl)
    (fun m i s hi hrec => by
      simp only [Int.toNat_natCast] at hrec ⊢
      split
      · rename_i hs
        obtain ⟨d, hd⟩ : ∃ d, w.Coins.length - i = d + 1 := ⟨w.Coins.length - i - 1, by omega⟩
        have hd' : w.Coins.length - (i + 1) = d := by omega
        have e1 : w64 ((i : Int) + 1) = ((i + 1 : Nat) : Int) := by rw [w64_id (by omega) (by omega)]; simp
        have := hrec (s ++ [cnt i acts])
        rw [e1] at this
        simp only [Int.toNat_natCast] at this
        rw [if_pos (by simp [hs])] at this
        simp only [ref01_Bag_l1, ref01_Bag_l1_b]
        rw [if_pos (by simp; omega), bag_l2 _ _ _ _ hl hn2]
        simp only [ref01_Bag_j3, ref01_Bag_j2]
        rw [app_ok (by simp; omega), bnd_some, e1, this, hd, hd', List.range'_succ]
        simp
      · rfl)
    w.Coins.length 0 n [] (by omega) (by omega) (by omega)
  simp only [Int.toNat_natCast, List.length_nil, if_true, Nat.sub_zero, List.nil_append] at key
  unfold ref01_Bag bagL
  rw [List.range_eq_range']
  exact key
theorem bagL_eq {w : Wheel} {l acts : List Int} (hl : l.length = w.Coins.length) (h : ∀ k : Nat, k < w.Coins.length → cnt k acts = l.getD k 0) : bagL w acts = l := by
  apply List.ext_getElem (by simp [bagL, hl])
  intro i h1 h2
  have := h i (by omega)
  simp only [bagL, List.getElem_map, List.getElem_range]
  rw [this]
  simp [h2]
theorem Buys_eq {n : Nat} {w : Wheel} (h : OkW w) (hn : 200 ≤ n) (acts : List Int) (hl : acts.length ≤ 40) (ha : acts.all (okAct w) = true) : ref01_Buys n w acts = some (buysL w ⟨0, 0⟩ acts) := by
  have hr := h.r1
  have key := loopI (F := fun m i (q : Int × Stand) => ref01_Buys_l1 n w acts m q.1 i q.2.Place q.2.Credit) (xs := acts) (spec := fun l q => some (q.1 + buysL w q.2 l))
    (I := fun l q => (0 ≤ q.1 ∧ q.1 + 100 * l.length ≤ 100000) ∧ OkS w q.2 (5000 - 100 * l.length) ∧ l.length ≤ 40 ∧ l.all (okAct w) = true) (by omega)
    (fun m q hI => by simp [ref01_Buys_l1, ref01_Buys_l1_b, ref01_Buys_j1, buysL])
    (fun m i x l q hI hx hi _ _ hrec => by
      obtain ⟨i1, i2, i3, i4⟩ := hI
      simp only [List.length_cons, List.all_cons, Bool.and_eq_true] at i1 i2 i3 i4
      have hb : (5000 - 100 * ((l.length + 1 : Nat) : Int)) + 100 = 5000 - 100 * (l.length : Int) := by simp; omega
      have hok := actS_ok h i2 i4.1
      rw [hb] at hok
      have hxr := inR_iff.1 i4.1
      have e0 : (⟨q.2.Place, q.2.Credit⟩ : Stand) = q.2 := rfl
      simp only [ref01_Buys_l1, ref01_Buys_l1_b]
      rw [if_pos (by simpa using hi), hx, bnd_some, e0, Act_eq h hn i2 (by omega) i4.1, bnd_some]
      simp only [ref01_Buys_j2, buysL]
      have hdiff : ∀ y : Int, y = (if 0 ≤ x then (turn w q.2.Place (coin w x)).2 else 0) → 0 ≤ y → y ≤ 100 →
          (if (actS w q.2 x).2 = true then w64 (w64 (q.1 + w64 ((actS w q.2 x).1.Credit - q.2.Credit)) + 1) else w64 (q.1 + w64 ((actS w q.2 x).1.Credit - q.2.Credit))) = q.1 + y := by
        intro y hy y0 y1
        have c0 := i2.c0
        have c1 := i2.c1
        unfold actS at *
        by_cases h0 : 0 ≤ x
        · rw [if_pos h0] at hy
          simp only [if_pos h0, Bool.false_eq_true, if_false]
          rw [← hy, w64_id (x := _ - _) (by omega) (by omega), w64_id (by omega) (by omega)]
          omega
        · rw [if_neg h0] at hy
          by_cases hc : q.2.Credit = 0
          · simp only [if_neg h0, if_pos hc, Bool.false_eq_true, if_false]
            rw [w64_id (x := _ - _) (by omega) (by omega), w64_id (by omega) (by omega)]
            omega
          · simp only [if_neg h0, if_neg hc, if_true]
            rw [w64_id (x := _ - _) (by omega) (by omega), w64_id (x := q.1 + _) (by omega) (by omega), w64_id (by omega) (by omega)]
            omega
      have hyr : 0 ≤ (if 0 ≤ x then (turn w q.2.Place (coin w x)).2 else 0) ∧ (if 0 ≤ x then (turn w q.2.Place (coin w x)).2 else 0) ≤ 100 := by
        split
        · rename_i h0
          have hc := coin_range h h0 hxr.2
          have ht := turn_range h i2.p0 i2.p1 (show 0 ≤ coin w x by omega)
          omega
        · omega
      have hd := hdiff _ rfl hyr.1 hyr.2
      have fin := hrec (q.1 + (if 0 ≤ x then (turn w q.2.Place (coin w x)).2 else 0), (actS w q.2 x).1) ⟨⟨by simp only; omega, by simp only; omega⟩, hok, by omega, i4.2⟩
      simp only at fin
      by_cases hm : (actS w q.2 x).2 = true
      · rw [if_pos hm] at hd ⊢
        rw [hd, fin, Int.add_assoc]
      · rw [if_neg hm] at hd ⊢
        rw [hd, fin, Int.add_assoc])
    acts 0 n (0, ⟨0, 0⟩) (by omega) rfl (by omega) ⟨⟨by simp, by simp; omega⟩, ⟨by simp, by simp; omega, by simp, by simp; omega⟩, hl, ha⟩
  have key : ref01_Buys_l1 n w acts n 0 0 0 0 = _ := key
  unfold ref01_Buys
  rw [key, Int.zero_add]
def coinsOf : List Int → Int
  | [] => 0
  | a :: l => (if 0 ≤ a then 1 else 0) + coinsOf l
theorem coinsOf_range : ∀ l : List Int, 0 ≤ coinsOf l ∧ coinsOf l ≤ l.length
  | [] => by simp [coinsOf]
  | a :: l => by
    have := coinsOf_range l
    simp only [coinsOf, List.length_cons]
    split <;> omega
theorem total_add (f g : Nat → Int) : ∀ l : List Nat, total (l.map fun k => f k + g k) = total (l.map f) + total (l.map g)
  | [] => rfl
  | k :: l => by
    simp only [List.map_cons, total]
    rw [total_add f g l]
    omega
theorem total_one (a : Int) : ∀ (d k : Nat), total ((List.range' k d).map fun (j : Nat) => if a = (j : Int) then 1 else 0) = if (k : Int) ≤ a ∧ a < k + d then 1 else 0
  | 0, k => by
    simp only [List.range'_zero, List.map_nil, total]
    rw [if_neg (by omega)]
  | d + 1, k => by
    rw [List.range'_succ, List.map_cons, total, total_one a d (k + 1)]
    by_cases e : a = (k : Int)
    · rw [if_pos e, if_neg (by omega), if_pos (by omega)]; omega
    · rw [if_neg e]
      by_cases q : ((k + 1 : Nat) : Int) ≤ a ∧ a < ((k + 1 : Nat) : Int) + d
      · rw [if_pos q, if_pos (by omega)]; omega
      · rw [if_neg q, if_neg (by omega)]; omega
theorem total_bagL {w : Wheel} : ∀ {acts : List Int}, acts.all (okAct w) = true → total (bagL w acts) = coinsOf acts
  | [], _ => by
    unfold bagL
    simp only [cnt, coinsOf]
    generalize w.Coins.length = d
    induction d with
    | zero => rfl
    | succ d ih => rw [List.range_succ, List.map_append, total_append, ih]; rfl
  | a :: l, h => by
    simp only [List.all_cons, Bool.and_eq_true] at h
    have ih := total_bagL h.2
    have ha := inR_iff.1 h.1
    unfold bagL at ih ⊢
    simp only [cnt, coinsOf]
    rw [List.range_eq_range'] at ih ⊢
    rw [total_add (fun (k : Nat) => if a = (k : Int) then 1 else 0) (fun (k : Nat) => cnt (k : Int) l), ih, total_one]
    congr 1
    by_cases e : 0 ≤ a
    · rw [if_pos e, if_pos (by omega)]
    · rw [if_neg e, if_neg (by omega)]
theorem isWay_eq {n : Nat} {w : Wheel} {l acts : List Int} (hn : 100 ≤ n) (hw : w.Coins.length ≤ 40) (hl : l.length = w.Coins.length) (ha : acts.length ≤ 40) (hok : acts.all (okAct w) = true) (hlen : (acts.length : Int) ≤ 2 * total l) (hb : ∀ k : Nat, k < w.Coins.length → cnt k acts = l.getD k 0) :
    law01_isWay n w l acts = some true := by
  have hbag := bagL_eq hl hb
  have ht : total l = coinsOf acts := by rw [← hbag, total_bagL hok]
  have key := loopI (F := fun m i (s : Int) => law01_isWay_l1 n w l acts m s i) (xs := acts) (spec := fun k s => law01_isWay_j1 n w l acts (s + coinsOf k)) (I := fun k s => (0 ≤ s ∧ s + k.length ≤ 1000000) ∧ k.all (okAct w) = true) (by omega)
    (fun m s hI => by simp [law01_isWay_l1, law01_isWay_l1_b, coinsOf])
    (fun m i x k s hI hx hi _ _ hrec => by
      simp only [List.length_cons, List.all_cons, Bool.and_eq_true] at hI
      have hxr := inR_iff.1 hI.2.1
      simp only [law01_isWay_l1, law01_isWay_l1_b, law01_isWay_j4, law01_isWay_j3]
      rw [if_pos (by simpa using hi), hx, bnd_some, if_neg (by simp; omega), bnd_some, if_neg (by simp; omega), bnd_some]
      by_cases e : 0 ≤ x
      · rw [if_pos (by simpa using e), w64_id (x := s + 1) (by omega) (by omega), hrec (s + 1) ⟨⟨by omega, by omega⟩, hI.2.2⟩]
        simp only [coinsOf, if_pos e]
        rw [show s + 1 + coinsOf k = s + (1 + coinsOf k) by omega]
      · rw [if_neg (by simpa using e), hrec s ⟨⟨by omega, by omega⟩, hI.2.2⟩]
        simp only [coinsOf, if_neg e]
        rw [show s + coinsOf k = s + (0 + coinsOf k) by omega])
    acts 0 n 0 (by omega) rfl (by omega) ⟨⟨by omega, by omega⟩, hok⟩
  have key : law01_isWay_l1 n w l acts n 0 0 = _ := key
  have hc := coinsOf_range acts
  unfold law01_isWay
  rw [key, Int.zero_add]
  unfold law01_isWay_j1 law01_isWay_j2
  rw [w64_id (by omega) (by omega), if_pos (by simp; omega), Bag_eq w acts (by omega) (by omega) (by omega) (by omega), bnd_some, hbag, SameInts_self l (by omega) (by omega), bnd_some]
def richB (w : Wheel) (l : List Int) : Bool := decide ((l.length : Int) > 40) || (valid w && isPurse w l && decide (total l > 6))
theorem rich_eq {n : Nat} {w : Wheel} (hn : 100 ≤ n) (hw : okLen n w) (hwc : w.Coins.length < 100000) (l : List Int) : law01_rich n w l = some (richB w l) := by
  unfold law01_rich richB
  by_cases q : (l.length : Int) > 40
  · rw [if_pos (by simpa using q)]
    simp [q]
  · rw [if_neg (by simpa using q), rCheck_eq hw, bnd_some]
    rw [show decide ((l.length : Int) > 40) = false by simpa using q, Bool.false_or]
    cases hv : valid w with
    | false => rfl
    | true =>
      simp only [cond_true, bne_self_eq_false, Bool.false_eq_true, if_false, Bool.true_and]
      rw [IsPurse_eq hwc hw.2.2.2, bnd_some]
      cases hp : isPurse w l with
      | false => rfl
      | true =>
        obtain ⟨hok, h12⟩ := purse_ok hp
        have hsub : ∀ x, x ∈ l → 0 ≤ x ∧ x ≤ 12 := by
          simp only [isPurse, Bool.and_eq_true, List.all_eq_true] at hp
          exact fun x hx => inR_iff.1 (hp.1.2 x hx)
        unfold law01_rich_j1
        rw [if_neg (by simp)]
        have key := loopI (F := fun m i (s : Int) => law01_rich_l1 l m s i) (xs := l) (spec := fun k s => some (decide (s + total k > 6))) (I := fun k s => (0 ≤ s ∧ s + 12 * k.length ≤ 100000000) ∧ ∀ x, x ∈ k → 0 ≤ x ∧ x ≤ 12) (by omega)
          (fun m s hI => by simp [law01_rich_l1, law01_rich_l1_b, law01_rich_j2, total])
          (fun m i x k s hI hx hi _ _ hrec => by
            simp only [List.length_cons] at hI
            have := hI.2 x (by simp)
            simp only [law01_rich_l1, law01_rich_l1_b]
            have e : s + total (x :: k) = s + x + total k := by simp only [total]; omega
            rw [if_pos (by simpa using hi), hx, bnd_some, w64_id (x := s + x) (by omega) (by omega), hrec (s + x) ⟨⟨by omega, by omega⟩, fun y hy => hI.2 y (by simp [hy])⟩, e])
          l 0 n 0 (by omega) rfl (by omega) ⟨⟨by omega, by omega⟩, hsub⟩
        rw [show law01_rich_l1 l n 0 0 = _ from key]
        simp
theorem Way.count {w : Wheel} {s : Stand} {l acts : List Int} {q : Int} (h : Way w s l acts q) (ht : total l ≤ 12) : acts.length ≤ 24 := by have := h.len; omega
def wsum (w : Wheel) (l : List Int) : Nat → Nat → Int
  | 0, _ => 0
  | d + 1, k => coin w k * l.getD k 0 + wsum w l d (k + 1)
def purseW (w : Wheel) (l : List Int) : Int := wsum w l w.Coins.length 0
theorem wterm {w : Wheel} (h : OkW w) {l : List Int} (hl : ∀ k, 0 ≤ l.getD k 0 ∧ l.getD k 0 ≤ 1000) {k : Nat} (hk : k < w.Coins.length) : 0 ≤ coin w k * l.getD k 0 ∧ coin w k * l.getD k 0 ≤ 100000 := by
  have hco := coin_range h (a := (k : Int)) (by omega) (by omega)
  have := hl k
  refine ⟨Int.mul_nonneg (by omega) (by omega), ?_⟩
  have h1 : coin w k * l.getD k 0 ≤ 100 * l.getD k 0 := Int.mul_le_mul_of_nonneg_right hco.2 (by omega)
  omega
theorem wsum_range {w : Wheel} (h : OkW w) {l : List Int} (hl : ∀ k, 0 ≤ l.getD k 0 ∧ l.getD k 0 ≤ 1000) : ∀ (d k : Nat), k + d ≤ w.Coins.length → 0 ≤ wsum w l d k ∧ wsum w l d k ≤ 100000 * d
  | 0, k, _ => by simp [wsum]
  | d + 1, k, hk => by
    have := wsum_range h hl d (k + 1) (by omega)
    have := wterm h hl (show k < w.Coins.length by omega)
    simp only [wsum]
    omega
theorem worth_eq {n : Nat} {w : Wheel} (h : OkW w) (hn : 100 ≤ n) {l : List Int} (hl : ∀ k, 0 ≤ l.getD k 0 ∧ l.getD k 0 ≤ 1000) : coins_wheel_worth n ⟨w⟩ (bagOf l) = some (purseW w l) := by
  have h4 := h.clen
  have key : ∀ (d i m : Nat) (s : Int), d = w.Coins.length - i → i ≤ w.Coins.length → d < m → 0 ≤ s → s + 100000 * d ≤ 1000000 → coins_wheel_worth_l1 ⟨w⟩ (bagOf l) m s (i : Int) = some (s + wsum w l d i) := by
    intro d
    induction d with
    | zero =>
      intro i m s hd hi hm hs hs2
      obtain ⟨m, rfl⟩ : ∃ q, m = q + 1 := ⟨m - 1, by omega⟩
      simp only [coins_wheel_worth_l1, coins_wheel_worth_l1_b, coins_wheel_worth_j1, wsum]
      rw [if_neg (by simp; omega), Int.add_zero]
    | succ d ih =>
      intro i m s hd hi hm hs hs2
      obtain ⟨m, rfl⟩ : ∃ q, m = q + 1 := ⟨m - 1, by omega⟩
      have ht := wterm h hl (show i < w.Coins.length by omega)
      have hco := coin_range h (a := (i : Int)) (by omega) (by omega)
      simp only [coins_wheel_worth_l1, coins_wheel_worth_l1_b, wsum]
      rw [if_pos (by simp; omega), show ([(bagOf l).c0, (bagOf l).c1, (bagOf l).c2, (bagOf l).c3] : List Int) = bag4 l from rfl, idx_bag (by omega)]
      show Option.bind (idx w.Coins (i : Int)) _ = _
      rw [coin_idx (by omega) (by omega), bnd_some, bnd_some, w64_id (x := coin w i * _) (by omega) (by omega), w64_id (x := s + _) (by omega) (by omega), w64_id (x := (i : Int) + 1) (by omega) (by omega)]
      have := ih (i + 1) m (s + coin w i * l.getD i 0) (by omega) (by omega) (by omega) (by omega) (by omega)
      rw [show (((i + 1 : Nat)) : Int) = (i : Int) + 1 by simp] at this
      rw [this]
      congr 1
      omega
  have := key w.Coins.length 0 n 0 (by omega) (by omega) (by omega) (by omega) (by omega)
  rw [Int.zero_add] at this
  exact this
theorem PurseWorth_eq {n : Nat} {w : Wheel} (h : OkW w) (hn : 100 ≤ n) {l : List Int} (hlen : l.length = w.Coins.length) (hl : ∀ k, 0 ≤ l.getD k 0 ∧ l.getD k 0 ≤ 1000) : ref01_PurseWorth n w l = some (purseW w l) := by
  have h4 := h.clen
  have key : ∀ (d i m : Nat) (s : Int), d = w.Coins.length - i → i ≤ w.Coins.length → d < m → 0 ≤ s → s + 100000 * d ≤ 1000000 → ref01_PurseWorth_l1 w l m s (i : Int) = some (s + wsum w l d i) := by
    intro d
    induction d with
    | zero =>
      intro i m s hd hi hm hs hs2
      obtain ⟨m, rfl⟩ : ∃ q, m = q + 1 := ⟨m - 1, by omega⟩
      simp only [ref01_PurseWorth_l1, ref01_PurseWorth_l1_b, ref01_PurseWorth_j1, wsum]
      rw [if_neg (by simp; omega), Int.add_zero]
    | succ d ih =>
      intro i m s hd hi hm hs hs2
      obtain ⟨m, rfl⟩ : ∃ q, m = q + 1 := ⟨m - 1, by omega⟩
      have ht := wterm h hl (show i < w.Coins.length by omega)
      have ei : l[i]'(by omega) = l.getD i 0 := by simp [show i < l.length by omega]
      simp only [ref01_PurseWorth_l1, ref01_PurseWorth_l1_b, wsum]
      rw [if_pos (by simp; omega), idx_nat (by omega), bnd_some, coin_idx (by omega) (by omega), bnd_some, ei, Int.mul_comm, w64_id (x := coin w i * _) (by omega) (by omega), w64_id (x := s + _) (by omega) (by omega), w64_id (x := (i : Int) + 1) (by omega) (by omega)]
      have := ih (i + 1) m (s + coin w i * l.getD i 0) (by omega) (by omega) (by omega) (by omega) (by omega)
      rw [show (((i + 1 : Nat)) : Int) = (i : Int) + 1 by simp] at this
      rw [this]
      congr 1
      omega
  have := key w.Coins.length 0 n 0 (by omega) (by omega) (by omega) (by omega) (by omega)
  rw [Int.zero_add] at this
  exact this
theorem wsum_congr {w : Wheel} {l l' : List Int} : ∀ (d k : Nat), (∀ j, k ≤ j → j < k + d → l.getD j 0 = l'.getD j 0) → wsum w l d k = wsum w l' d k
  | 0, k, _ => rfl
  | d + 1, k, h => by
    simp only [wsum]
    rw [h k (by omega) (by omega), wsum_congr d (k + 1) (fun j h1 h2 => h j (by omega) (by omega))]
def down : Nat → List Int
  | 0 => [0]
  | n + 1 => ((n + 1 : Nat) : Int) :: down n
def subsD : List Int → List (List Int)
  | [] => [[]]
  | x :: l => (down x.toNat).flatMap fun v => (subsD l).map (v :: ·)
def upF : Nat → Nat → List Int
  | _, 0 => []
  | i, d + 1 => (i : Int) :: upF (i + 1) d
def subsU : List Int → List (List Int)
  | [] => [[]]
  | x :: l => (upF 0 (x.toNat + 1)).flatMap fun v => (subsU l).map (v :: ·)
theorem down_mem {v : Int} : ∀ {n : Nat}, v ∈ down n ↔ 0 ≤ v ∧ v ≤ n
  | 0 => by simp [down]; omega
  | n + 1 => by
    simp only [down, List.mem_cons, down_mem]
    omega
theorem upF_mem {v : Int} : ∀ {d i : Nat}, v ∈ upF i d ↔ (i : Int) ≤ v ∧ v < i + d
  | 0, i => by simp [upF] <;> omega
  | d + 1, i => by
    simp only [upF, List.mem_cons, upF_mem]
    omega
theorem upF_len : ∀ (d i : Nat), (upF i d).length = d
  | 0, i => rfl
  | d + 1, i => by simp [upF, upF_len d (i + 1)]
def Part (t l : List Int) : Prop := t.length = l.length ∧ ∀ k, 0 ≤ t.getD k 0 ∧ t.getD k 0 ≤ l.getD k 0
theorem part_cons {v x : Int} {t l : List Int} : Part (v :: t) (x :: l) ↔ (0 ≤ v ∧ v ≤ x) ∧ Part t l := by
  unfold Part
  constructor
  · rintro ⟨h1, h2⟩
    exact ⟨by simpa using h2 0, by simpa using h1, fun k => by simpa using h2 (k + 1)⟩
  · rintro ⟨h1, h2, h3⟩
    refine ⟨by simp [h2], fun k => ?_⟩
    cases k with
    | zero => simpa using h1
    | succ k => simpa using h3 k
theorem subsD_mem : ∀ {l t : List Int}, (∀ x, x ∈ l → 0 ≤ x) → (t ∈ subsD l ↔ Part t l)
  | [], t, _ => by
    simp only [subsD, List.mem_singleton]
    constructor
    · rintro rfl; exact ⟨rfl, fun k => by simp⟩
    · exact fun h => List.eq_nil_of_length_eq_zero h.1
  | x :: l, t, h => by
    have hx := h x (by simp)
    have ih := fun t => subsD_mem (l := l) (t := t) (fun y hy => h y (by simp [hy]))
    simp only [subsD, List.mem_flatMap, List.mem_map, ih, down_mem]
    constructor
    · rintro ⟨v, hv, t', ht, rfl⟩
      exact part_cons.2 ⟨by omega, ht⟩
    · intro hp
      cases t with
      | nil => exact absurd hp.1 (by simp)
      | cons v t =>
        obtain ⟨h1, h2⟩ := part_cons.1 hp
        exact ⟨v, by omega, t, h2, rfl⟩
theorem subsU_mem : ∀ {l t : List Int}, (∀ x, x ∈ l → 0 ≤ x) → (t ∈ subsU l ↔ Part t l)
  | [], t, _ => by
    simp only [subsU, List.mem_singleton]
    constructor
    · rintro rfl; exact ⟨rfl, fun k => by simp⟩
    · exact fun h => List.eq_nil_of_length_eq_zero h.1
  | x :: l, t, h => by
    have hx := h x (by simp)
    have ih := fun t => subsU_mem (l := l) (t := t) (fun y hy => h y (by simp [hy]))
    simp only [subsU, List.mem_flatMap, List.mem_map, ih, upF_mem]
    constructor
    · rintro ⟨v, hv, t', ht, rfl⟩
      exact part_cons.2 ⟨by omega, ht⟩
    · intro hp
      cases t with
      | nil => exact absurd hp.1 (by simp)
      | cons v t =>
        obtain ⟨h1, h2⟩ := part_cons.1 hp
        exact ⟨v, by omega, t, h2, rfl⟩
theorem flatMap_len {α β : Type} {f : α → List β} {c : Nat} : ∀ {l : List α}, (∀ x, x ∈ l → (f x).length = c) → (l.flatMap f).length = l.length * c
  | [], _ => by simp
  | x :: l, h => by
    rw [List.flatMap_cons, List.length_append, h x (by simp), flatMap_len (l := l) (fun y hy => h y (by simp [hy])), List.length_cons, Nat.succ_mul]
    omega
theorem subsU_len : ∀ {l : List Int}, (∀ x, x ∈ l → x ≤ 6) → (subsU l).length ≤ 7 ^ l.length
  | [], _ => by simp [subsU]
  | x :: l, h => by
    have ih := subsU_len (l := l) (fun y hy => h y (by simp [hy]))
    have hx := h x (by simp)
    simp only [subsU, List.length_cons]
    rw [flatMap_len (c := (subsU l).length) (fun v _ => by simp), upF_len, Nat.pow_succ, Nat.mul_comm]
    exact Nat.mul_le_mul ih (by omega)
def runP {S : Type} (F : Bag_ → S → Option (Unit × S)) : List (List Int) → S → Option S
  | [], s => some s
  | t :: ts, s => (F (bagOf t) s).bind fun r => runP F ts r.2
theorem runP_append {S : Type} (F : Bag_ → S → Option (Unit × S)) : ∀ (a b : List (List Int)) (s : S), runP F (a ++ b) s = (runP F a s).bind fun s => runP F b s
  | [], b, s => rfl
  | t :: a, b, s => by
    simp only [List.cons_append, runP]
    cases F (bagOf t) s with
    | none => rfl
    | some r => exact runP_append F a b r.2
theorem set_mid (pre : List Int) (y v : Int) (rest : List Int) : (pre ++ y :: rest).set pre.length v = pre ++ v :: rest := by
  rw [List.set_append_right _ _ (Nat.le_refl _), Nat.sub_self]
  rfl
theorem getD_mid (pre : List Int) (y : Int) (rest : List Int) : (pre ++ y :: rest).getD pre.length 0 = y := by
  simp
theorem parts_eq {S : Type} (F : Bag_ → S → Option (Unit × S)) : ∀ (rest pre : List Int) (n : Nat) (st : S), pre.length + rest.length = 4 → (∀ x, x ∈ rest → 0 ≤ x ∧ x ≤ 1000) → 1100 + rest.length ≤ n →
    coins_parts n F (bagOf (pre ++ rest)) (pre.length : Int) st = (runP F ((subsD rest).map (pre ++ ·)) st).map fun s => ((), s) := by
  intro rest
  induction rest with
  | nil =>
    intro pre n st hlen hx hn
    obtain ⟨n, rfl⟩ : ∃ q, n = q + 1 := ⟨n - 1, by omega⟩
    simp only [coins_parts, coins_parts_b, subsD, List.map_cons, List.map_nil, runP]
    simp only [List.length_nil, Nat.add_zero] at hlen
    rw [if_pos (by simp [hlen])]
    cases F (bagOf (pre ++ [])) st with
    | none => rfl
    | some r => rfl
  | cons x rest ih =>
    intro pre n st hlen hx hn
    obtain ⟨n, rfl⟩ : ∃ q, n = q + 1 := ⟨n - 1, by omega⟩
    simp only [List.length_cons] at hlen hn
    have hxr := hx x (by simp)
    simp only [coins_parts, coins_parts_b]
    rw [if_neg (by simp; omega), show ([(bagOf (pre ++ x :: rest)).c0, (bagOf (pre ++ x :: rest)).c1, (bagOf (pre ++ x :: rest)).c2, (bagOf (pre ++ x :: rest)).c3] : List Int) = bag4 (pre ++ x :: rest) from rfl, idx_bag (by omega), getD_mid, bnd_some]
    have loop : ∀ (j m : Nat) (y : Int) (st : S), j + 2 ≤ m → j ≤ 1000 →
        coins_parts_l1 (coins_parts n F) (pre.length : Int) m (j : Int) ((pre ++ y :: rest).getD 0 0) ((pre ++ y :: rest).getD 1 0) ((pre ++ y :: rest).getD 2 0) ((pre ++ y :: rest).getD 3 0) st =
          (runP F (((down j).flatMap fun v => (subsD rest).map (v :: ·)).map (pre ++ ·)) st).map fun s => ((), s) := by
      have one : ∀ (j m : Nat) (y : Int) (st : S), 1 ≤ m → j ≤ 1000 →
          coins_parts_l1 (coins_parts n F) (pre.length : Int) m (j : Int) ((pre ++ y :: rest).getD 0 0) ((pre ++ y :: rest).getD 1 0) ((pre ++ y :: rest).getD 2 0) ((pre ++ y :: rest).getD 3 0) st =
            (runP F (((subsD rest).map ((j : Int) :: ·)).map (pre ++ ·)) st).bind fun s => coins_parts_l1 (coins_parts n F) (pre.length : Int) (m - 1) ((j : Int) - 1) ((pre ++ (j : Int) :: rest).getD 0 0) ((pre ++ (j : Int) :: rest).getD 1 0) ((pre ++ (j : Int) :: rest).getD 2 0) ((pre ++ (j : Int) :: rest).getD 3 0) s := by
        intro j m y st hm hj
        obtain ⟨m, rfl⟩ : ∃ q, m = q + 1 := ⟨m - 1, by omega⟩
        simp only [coins_parts_l1, coins_parts_l1_b]
        rw [if_pos (by simp), show ([(pre ++ y :: rest).getD 0 0, (pre ++ y :: rest).getD 1 0, (pre ++ y :: rest).getD 2 0, (pre ++ y :: rest).getD 3 0] : List Int) = bag4 (pre ++ y :: rest) from rfl, idx_bag (by omega), bnd_some, set_bag (by simp) (by simp; omega), set_mid, bnd_some]
        have e : ((pre.length : Int) + 1) = ((pre ++ [(j : Int)]).length : Int) := by simp
        rw [w64_id (x := (pre.length : Int) + 1) (by omega) (by omega), e, w64_id (x := (j : Int) - 1) (by omega) (by omega)]
        have hrec := ih (pre ++ [(j : Int)]) n st (by simp; omega) (fun z hz => hx z (by simp [hz])) (by omega)
        rw [show pre ++ [(j : Int)] ++ rest = pre ++ (j : Int) :: rest by simp] at hrec
        rw [show (⟨(bag4 (pre ++ (j : Int) :: rest)).getD 0 0, (bag4 (pre ++ (j : Int) :: rest)).getD 1 0, (bag4 (pre ++ (j : Int) :: rest)).getD 2 0, (bag4 (pre ++ (j : Int) :: rest)).getD 3 0⟩ : Bag_) = bagOf (pre ++ (j : Int) :: rest) from rfl, hrec]
        have em : ((subsD rest).map ((j : Int) :: ·)).map (pre ++ ·) = (subsD rest).map (pre ++ [(j : Int)] ++ ·) := by
          rw [List.map_map]
          apply List.map_congr_left
          intro t _
          simp
        rw [em]
        cases runP F ((subsD rest).map (pre ++ [(j : Int)] ++ ·)) st with
        | none => rfl
        | some s => rfl
      intro j
      induction j with
      | zero =>
        intro m y st hm hj
        rw [one 0 m y st (by omega) (by omega)]
        simp only [down, List.flatMap_cons, List.flatMap_nil, List.append_nil]
        obtain ⟨m, rfl⟩ : ∃ q, m = q + 2 := ⟨m - 2, by omega⟩
        show ((runP F (((subsD rest).map ((0 : Int) :: ·)).map (pre ++ ·)) st).bind fun s => _) = _
        cases runP F (((subsD rest).map ((0 : Int) :: ·)).map (pre ++ ·)) st with
        | none => rfl
        | some s =>
          simp only [Option.bind_some, Option.map_some]
          rw [show m + 2 - 1 = m + 1 by omega]
          simp only [coins_parts_l1, coins_parts_l1_b]
          rw [if_neg (by simp)]
      | succ j ihj =>
        intro m y st hm hj
        rw [one (j + 1) m y st (by omega) (by omega)]
        simp only [down, List.flatMap_cons, List.map_append]
        rw [runP_append]
        cases runP F (((subsD rest).map (((j + 1 : Nat) : Int) :: ·)).map (pre ++ ·)) st with
        | none => rfl
        | some s =>
          simp only [Option.bind_some]
          rw [show ((j + 1 : Nat) : Int) - 1 = (j : Int) by omega]
          exact ihj (m - 1) _ s (by omega) (by omega)
    have := loop x.toNat n x st (by omega) (by omega)
    rw [show ((x.toNat : Nat) : Int) = x by omega] at this
    rw [subsD]
    exact this
theorem rparts_eq : ∀ (rest pre f : List Int) (n : Nat), f.length = pre.length → pre.length + rest.length ≤ 4 → (∀ x, x ∈ rest → 0 ≤ x ∧ x ≤ 6) → 100 + rest.length ≤ n → ref01_parts n (pre ++ rest) f = some ((subsU rest).map (f ++ ·)) := by
  intro rest
  induction rest with
  | nil =>
    intro pre f n hf hlen hx hn
    obtain ⟨n, rfl⟩ : ∃ q, n = q + 1 := ⟨n - 1, by omega⟩
    simp only [ref01_parts, ref01_parts_b, subsU]
    rw [if_pos (by simp [hf])]
    simp
  | cons x rest ih =>
    intro pre f n hf hlen hx hn
    obtain ⟨n, rfl⟩ : ∃ q, n = q + 1 := ⟨n - 1, by omega⟩
    simp only [List.length_cons] at hlen hn
    have hxr := hx x (by simp)
    have hsl := subsU_len (l := rest) (fun y hy => (hx y (by simp [hy])).2)
    have hpow : 7 ^ rest.length ≤ 7 ^ 3 := Nat.pow_le_pow_right (by omega) (by omega)
    simp only [ref01_parts, ref01_parts_b]
    rw [if_neg (by simp; omega)]
    have loop : ∀ (d i m : Nat) (out : List (List Int)), (d : Int) = x + 1 - i → (i : Int) ≤ x + 1 → d + 1 ≤ m → out.length + d * 343 ≤ 100000 →
        ref01_parts_l1 (ref01_parts n) (pre ++ x :: rest) f m out (i : Int) = some (out ++ (((upF i d).flatMap fun v => (subsU rest).map (v :: ·)).map (f ++ ·))) := by
      intro d
      induction d with
      | zero =>
        intro i m out hd hi hm ho
        obtain ⟨m, rfl⟩ : ∃ q, m = q + 1 := ⟨m - 1, by omega⟩
        simp only [ref01_parts_l1, ref01_parts_l1_b, ref01_parts_j1, upF]
        rw [hf, idx_mid, bnd_some, if_neg (by simp; omega)]
        simp
      | succ d ihd =>
        intro i m out hd hi hm ho
        obtain ⟨m, rfl⟩ : ∃ q, m = q + 1 := ⟨m - 1, by omega⟩
        have e : pre ++ x :: rest = (pre ++ [x]) ++ rest := by simp
        have hrec := ih (pre ++ [x]) (f ++ [(i : Int)]) n (by simp [hf]) (by simp; omega) (fun z hz => hx z (by simp [hz])) (by omega)
        rw [← e] at hrec
        simp only [ref01_parts_l1, ref01_parts_l1_b, upF]
        rw [hf, idx_mid, bnd_some, if_pos (by simp; omega), app_nil (by omega), bnd_some, app_ok (by simp; omega), bnd_some, hrec, bnd_some, app_ok (by simp; omega), bnd_some, w64_id (x := (i : Int) + 1) (by omega) (by omega)]
        have := ihd (i + 1) m (out ++ (subsU rest).map (f ++ [(i : Int)] ++ ·)) (by omega) (by omega) (by omega) (by simp; omega)
        rw [show (((i + 1 : Nat)) : Int) = (i : Int) + 1 by simp] at this
        rw [this, List.flatMap_cons, List.map_append, List.map_map, List.append_assoc]
        congr 3
        apply List.map_congr_left
        intro t _
        simp
    have := loop (x.toNat + 1) 0 n [] (by omega) (by omega) (by omega) (by simp; omega)
    rw [subsU]
    exact this
def wasteF (w : Wheel) (W all : Int) : List (List Int) → Int → Int
  | [], m => m
  | t :: ts, m => wasteF w W all ts (if W - purseW w t > m ∧ Q true w (total t).toNat 0 0 t = all then W - purseW w t else m)
theorem wasteF_spec (w : Wheel) (W all : Int) : ∀ (ts : List (List Int)) (m : Int), m ≤ wasteF w W all ts m ∧ (∀ t, t ∈ ts → Q true w (total t).toNat 0 0 t = all → W - purseW w t ≤ wasteF w W all ts m) ∧ (wasteF w W all ts m = m ∨ ∃ t, t ∈ ts ∧ Q true w (total t).toNat 0 0 t = all ∧ W - purseW w t = wasteF w W all ts m)
  | [], m => ⟨Int.le_refl m, fun t h => by simp at h, .inl rfl⟩
  | t :: ts, m => by
    simp only [wasteF]
    by_cases h : W - purseW w t > m ∧ Q true w (total t).toNat 0 0 t = all
    · rw [if_pos h]
      obtain ⟨h1, h2, h3⟩ := wasteF_spec w W all ts (W - purseW w t)
      refine ⟨by omega, fun t' ht hq => ?_, ?_⟩
      · rcases List.mem_cons.1 ht with rfl | ht
        · exact h1
        · exact h2 t' ht hq
      · rcases h3 with h3 | ⟨t', a, b, c⟩
        · exact .inr ⟨t, by simp, h.2, h3.symm⟩
        · exact .inr ⟨t', by simp [a], b, c⟩
    · rw [if_neg h]
      obtain ⟨h1, h2, h3⟩ := wasteF_spec w W all ts m
      refine ⟨h1, fun t' ht hq => ?_, ?_⟩
      · rcases List.mem_cons.1 ht with rfl | ht
        · have : ¬ W - purseW w t' > m := fun q => h ⟨q, hq⟩
          omega
        · exact h2 t' ht hq
      · rcases h3 with h3 | ⟨t', a, b, c⟩
        · exact .inl h3
        · exact .inr ⟨t', by simp [a], b, c⟩
theorem wasteF_same {w : Wheel} {W all : Int} {ts ts' : List (List Int)} (h : ∀ t, t ∈ ts ↔ t ∈ ts') (m : Int) : wasteF w W all ts m = wasteF w W all ts' m := by
  obtain ⟨a1, a2, a3⟩ := wasteF_spec w W all ts m
  obtain ⟨b1, b2, b3⟩ := wasteF_spec w W all ts' m
  apply Int.le_antisymm
  · rcases a3 with a3 | ⟨t, c, d, e⟩
    · omega
    · have := b2 t ((h t).1 c) d
      omega
  · rcases b3 with b3 | ⟨t, c, d, e⟩
    · omega
    · have := a2 t ((h t).2 c) d
      omega
def cutP (w : Wheel) (t : List Int) : List Int := t.take w.Coins.length
structure OkT (w : Wheel) (t : List Int) : Prop where
  len : t.length = 4
  rng : ∀ k, 0 ≤ t.getD k 0 ∧ t.getD k 0 ≤ 1000
  out : ∀ k, w.Coins.length ≤ k → t.getD k 0 = 0
  tot : total (cutP w t) ≤ 1000
theorem cutP_getD {w : Wheel} {t : List Int} (h : OkT w t) (k : Nat) : (cutP w t).getD k 0 = t.getD k 0 := by
  unfold cutP
  rw [List.getD_eq_getElem?_getD, List.getElem?_take]
  split
  · rfl
  · rw [h.out k (by omega)]
    rfl
theorem OkT.purse {w : Wheel} (hw : OkW w) {t : List Int} (h : OkT w t) : OkP w (cutP w t) := by
  have h4 := hw.clen
  have hl := h.len
  refine ⟨by simp [cutP]; omega, fun x hx => ?_, h.tot⟩
  obtain ⟨i, hi, rfl⟩ := List.getElem_of_mem hx
  have e : (cutP w t)[i] = (cutP w t).getD i 0 := by simp [hi]
  rw [e, cutP_getD h]
  exact (h.rng i).1
theorem OkT.bag {w : Wheel} {t : List Int} (h : OkT w t) : bagOf t = bagOf (cutP w t) := by
  simp only [bagOf, cutP_getD h]
theorem OkT.worth {w : Wheel} {t : List Int} (h : OkT w t) : purseW w t = purseW w (cutP w t) := wsum_congr _ _ fun j _ _ => (cutP_getD h j).symm
theorem waste_fold {n : Nat} {w : Wheel} (hw : OkW w) (hn : 1400 ≤ n) {l : List Int} (hl : ∀ k, 0 ≤ l.getD k 0 ∧ l.getD k 0 ≤ 1000) {all : Int} : ∀ (ts : List (List Int)), (∀ t, t ∈ ts → OkT w t) → ∀ (m : Int) (M : List (Spot_ × Int)), InvM true w M →
    ∃ M', runP (fun (x0 : Bag_) s => coins_Wasted_c1 n x0 (⟨w⟩, true) (spot l 0 0) all s) ts (m, M) = some (wasteF w (purseW w l) all (ts.map (cutP w)) m, M') ∧ InvM true w M'
  | [], _, m, M, hM => ⟨M, rfl, hM⟩
  | t :: ts, ht, m, M, hM => by
    have ok := ht t (by simp)
    have h4 := hw.clen
    have hr := hw.r1
    have hp := ok.purse hw
    have htn := total_nn hp.nn
    have r1 := wsum_range hw hl w.Coins.length 0 (by omega)
    have r2 := wsum_range hw ok.rng w.Coins.length 0 (by omega)
    have r1 : 0 ≤ purseW w l ∧ purseW w l ≤ 100000 * w.Coins.length := r1
    have r2 : 0 ≤ purseW w t ∧ purseW w t ≤ 100000 * w.Coins.length := r2
    obtain ⟨M1, b1, b2⟩ := buys_eq (b := true) hw (total (cutP w t)).toNat n 0 0 (cutP w t) M (by omega) (by have := hp.tot; omega) hp (by omega) (by omega) (by omega) (by omega) hM
    have step : ∃ M2, coins_Wasted_c1 n (bagOf t) (⟨w⟩, true) (spot l 0 0) all (m, M) = some ((), (if purseW w l - purseW w (cutP w t) > m ∧ Q true w (total (cutP w t)).toNat 0 0 (cutP w t) = all then purseW w l - purseW w (cutP w t) else m), M2) ∧ InvM true w M2 := by
      unfold coins_Wasted_c1
      simp only []
      rw [show (spot l 0 0).left = bagOf l from rfl, worth_eq hw (by omega) hl, bnd_some, worth_eq hw (by omega) ok.rng, bnd_some, w64_id (by omega) (by omega), ← ok.worth]
      by_cases e : purseW w l - purseW w t > m
      · rw [if_pos (by simpa using e), show (⟨bagOf t, 0, 0⟩ : Spot_) = spot (cutP w t) 0 0 by rw [ok.bag]; rfl, b1, bnd_some]
        unfold coins_Wasted_c1_j1
        refine ⟨M1, ?_, b2⟩
        by_cases e2 : Q true w (total (cutP w t)).toNat 0 0 (cutP w t) = all
        · rw [if_pos (by simpa using e2), if_pos ⟨e, e2⟩, w64_id (by omega) (by omega)]
        · rw [if_neg (by simpa using e2), if_neg (fun q => e2 q.2)]
      · rw [if_neg (by simpa using e)]
        unfold coins_Wasted_c1_j1
        rw [if_neg (by simp), if_neg (fun q => e q.1)]
        exact ⟨M, rfl, hM⟩
    obtain ⟨M2, c1, c2⟩ := step
    obtain ⟨M3, d1, d2⟩ := waste_fold hw hn hl (all := all) ts (fun t' h' => ht t' (by simp [h'])) _ M2 c2
    refine ⟨M3, ?_, d2⟩
    simp only [runP, List.map_cons, wasteF]
    rw [c1, bnd_some]
    exact d1
def wasteS (w : Wheel) (l : List Int) : Int × Int :=
  if valid w = true then (if isPurse w l = true then (wasteF w (purseW w l) (Q true w (total l).toNat 0 0 l) (subsU l) 0, 0) else (0, 1)) else (0, 10)
theorem total_part : ∀ {t l : List Int}, Part t l → total t ≤ total l
  | [], [], _ => Int.le_refl _
  | [], x :: l, h => absurd h.1 (by simp)
  | v :: t, [], h => absurd h.1 (by simp)
  | v :: t, x :: l, h => by
    obtain ⟨h1, h2⟩ := part_cons.1 h
    have := total_part h2
    simp only [total]
    omega
theorem part_nn {t l : List Int} (h : Part t l) : ∀ x, x ∈ t → 0 ≤ x := fun x hx => by
  obtain ⟨i, hi, rfl⟩ := List.getElem_of_mem hx
  have := (h.2 i).1
  simpa [hi] using this
theorem bag4_len (l : List Int) : (bag4 l).length = 4 := rfl
theorem bag4_getD (l : List Int) (h4 : l.length ≤ 4) (k : Nat) : (bag4 l).getD k 0 = l.getD k 0 := by
  match k with
  | 0 => rfl
  | 1 => rfl
  | 2 => rfl
  | 3 => rfl
  | k + 4 =>
    have : l.length ≤ k + 4 := by omega
    simp [bag4, this]
theorem bag4_cut {w : Wheel} {l : List Int} (hl : OkP w l) (h4 : l.length ≤ 4) {t : List Int} (ht : Part t (bag4 l)) : Part (cutP w t) l ∧ OkT w t := by
  have hlen := ht.1
  rw [bag4_len] at hlen
  have rng : ∀ k, 0 ≤ t.getD k 0 ∧ t.getD k 0 ≤ l.getD k 0 := fun k => by
    have := ht.2 k
    rw [bag4_getD l h4] at this
    exact this
  have hout : ∀ k, w.Coins.length ≤ k → t.getD k 0 = 0 := fun k hk => by
    have := rng k
    rw [hl.out k hk] at this
    omega
  have hg := getD_le hl.nn
  have htot := hl.tot
  have hcl : (cutP w t).length = l.length := by simp [cutP, hl.len]; have := hl.len; omega
  have hcg : ∀ k, (cutP w t).getD k 0 = t.getD k 0 := fun k => by
    unfold cutP
    rw [List.getD_eq_getElem?_getD, List.getElem?_take]
    split
    · rfl
    · rw [hout k (by omega)]
      rfl
  have hpart : Part (cutP w t) l := ⟨hcl, fun k => by rw [hcg]; exact rng k⟩
  exact ⟨hpart, hlen, fun k => ⟨(rng k).1, by have := rng k; have := hg k; omega⟩, hout, by have := total_part hpart; omega⟩
theorem cut_list {w : Wheel} {l : List Int} (hl : OkP w l) (h4 : l.length ≤ 4) (t : List Int) : t ∈ (subsD (bag4 l)).map (cutP w) ↔ t ∈ subsU l := by
  have hnn : ∀ x, x ∈ bag4 l → 0 ≤ x := fun x hx => by
    have g := getD_le hl.nn
    simp only [bag4, List.mem_cons, List.not_mem_nil, or_false] at hx
    rcases hx with rfl | rfl | rfl | rfl
    · exact (g 0).1
    · exact (g 1).1
    · exact (g 2).1
    · exact (g 3).1
  rw [List.mem_map, subsU_mem hl.nn]
  constructor
  · rintro ⟨t', ht, rfl⟩
    exact (bag4_cut hl h4 ((subsD_mem hnn).1 ht)).1
  · intro ht
    have hp : Part (bag4 t) (bag4 l) := ⟨rfl, fun k => by
      rw [bag4_getD l h4, bag4_getD t (by rw [ht.1]; exact h4)]
      exact ht.2 k⟩
    refine ⟨bag4 t, (subsD_mem hnn).2 hp, ?_⟩
    apply List.ext_getElem
    · rw [(bag4_cut hl h4 hp).1.1, ht.1]
    · intro i h1 h2
      have e1 : (cutP w (bag4 t))[i] = (cutP w (bag4 t)).getD i 0 := by simp [h1]
      have e2 : t[i] = t.getD i 0 := by simp [h2]
      rw [e1, e2, cutP_getD (bag4_cut hl h4 hp).2, bag4_getD t (by rw [ht.1]; exact h4)]
theorem Wasted_eq {n : Nat} {w : Wheel} (hw : okLen n w) (hn : 1400 ≤ n) (l : List Int) (hl : l.length < 100000) (hn2 : l.length < n) : coins_Wasted n w l = some (wasteS w l) := by
  unfold coins_Wasted wasteS
  rw [seek_eq hw (by omega) l hl hn2, bnd_some]
  by_cases hv : valid w = true
  · rw [if_pos hv, if_pos hv]
    by_cases hp : isPurse w l = true
    · have h := valid_ok hv
      obtain ⟨hok, h12⟩ := purse_ok hp
      have h4 : l.length ≤ 4 := by rw [hok.len]; exact h.clen
      obtain ⟨M', h1, hM'⟩ := buys_start (n := n) h (by omega) hp (InvM.nil true w)
      have g := getD_le hok.nn
      rw [if_pos hp, if_pos hp]
      simp only [Option.isSome_some, if_true, bnd_some, bne_self_eq_false, Bool.false_eq_true, if_false]
      rw [h1, bnd_some]
      have hx : ∀ x, x ∈ bag4 l → 0 ≤ x ∧ x ≤ 1000 := fun x hx => by
        have g0 := g 0
        have g1 := g 1
        have g2 := g 2
        have g3 := g 3
        simp only [bag4, List.mem_cons, List.not_mem_nil, or_false] at hx
        rcases hx with rfl | rfl | rfl | rfl <;> omega
      have hparts := parts_eq (fun (x0 : Bag_) s => coins_Wasted_c1 n x0 (⟨w⟩, true) (spot l 0 0) (Q true w (total l).toNat 0 0 l) s) (bag4 l) [] n (0, M') (by simp [bag4_len]) hx (by simp [bag4_len]; omega)
      rw [List.nil_append] at hparts
      have hbb : bagOf (bag4 l) = bagOf l := rfl
      obtain ⟨M2, w1, w2⟩ := waste_fold h hn (l := l) (fun k => ⟨(g k).1, by have := g k; omega⟩) (all := Q true w (total l).toNat 0 0 l) (subsD (bag4 l)) (fun t ht => (bag4_cut hok h4 ((subsD_mem (fun x hx' => (hx x hx').1)).1 ht)).2) 0 M' hM'
      have em : (subsD (bag4 l)).map (fun t => [] ++ t) = subsD (bag4 l) := by simp
      rw [em, w1, hbb] at hparts
      rw [show (spot l 0 0).left = bagOf l from rfl]
      have hparts : coins_parts n (fun (x0 : Bag_) s => coins_Wasted_c1 n x0 (⟨w⟩, true) (spot l 0 0) (Q true w (total l).toNat 0 0 l) s) (bagOf l) 0 (0, M') = _ := hparts
      show Option.bind (coins_parts n (fun (x0 : Bag_) s => coins_Wasted_c1 n x0 (⟨w⟩, true) (spot l 0 0) (Q true w (total l).toNat 0 0 l) s) (bagOf l) 0 (0, M')) _ = _
      rw [hparts]
      simp only [Option.map_some, bnd_some]
      rw [wasteF_same (cut_list hok h4)]
    · rw [if_neg hp, if_neg hp]
      rfl
  · rw [if_neg hv, if_neg hv]
    rfl
theorem rWasted_eq {n : Nat} {w : Wheel} (hw : okLen n w) (hn : 3000 ≤ n) (l : List Int) (hl : l.length < 100000) (hn2 : l.length < n) (h6 : valid w = true → isPurse w l = true → total l ≤ 6) : ref01_Wasted n w l = some (wasteS w l) := by
  unfold ref01_Wasted wasteS
  rw [rCheck_eq hw, bnd_some]
  cases hv : valid w with
  | false => rfl
  | true =>
    have h := valid_ok hv
    have h4 := h.clen
    simp only [cond_true, bne_self_eq_false, Bool.false_eq_true, if_false, if_true]
    rw [IsPurse_eq (by omega) hw.2.2.2, bnd_some]
    cases hp : isPurse w l with
    | false => rfl
    | true =>
      obtain ⟨hok, h12⟩ := purse_ok hp
      have h6 := h6 hv hp
      have g := getD_le hok.nn
      have g1000 : ∀ k, 0 ≤ l.getD k 0 ∧ l.getD k 0 ≤ 1000 := fun k => by have := g k; omega
      have hl4 : l.length ≤ 4 := by rw [hok.len]; exact h.clen
      have x6 : ∀ x, x ∈ l → 0 ≤ x ∧ x ≤ 6 := fun x hx => by
        obtain ⟨i, hi, rfl⟩ := List.getElem_of_mem hx
        have := g i
        have e : l.getD i 0 = l[i] := by simp [hi]
        omega
      have hsl := subsU_len (l := l) (fun x hx => (x6 x hx).2)
      have hpow : 7 ^ l.length ≤ 7 ^ 4 := Nat.pow_le_pow_right (by omega) hl4
      have r1 : 0 ≤ purseW w l ∧ purseW w l ≤ 100000 * w.Coins.length := wsum_range h g1000 w.Coins.length 0 (by omega)
      simp only [Bool.not_true, Bool.false_eq_true, if_false, if_true]
      rw [all_start h (by omega) hok h12, bnd_some, PurseWorth_eq h (by omega) hok.len g1000, bnd_some]
      have hparts := rparts_eq l [] [] n rfl (by simp; omega) x6 (by omega)
      have em : (subsU l).map (fun t => [] ++ t) = subsU l := by simp
      rw [em, List.nil_append] at hparts
      rw [hparts, bnd_some]
      have key := loopI (F := fun m i (s : Int) => ref01_Wasted_l1 n w ⟨Q true w (total l).toNat 0 0 l, Q false w (total l).toNat 0 0 l⟩ (purseW w l) (subsU l) m s i) (xs := subsU l) (spec := fun k s => some (wasteF w (purseW w l) (Q true w (total l).toNat 0 0 l) k s, 0)) (I := fun k s => ∀ t, t ∈ k → Part t l) (by omega)
        (fun m s hI => by simp [ref01_Wasted_l1, ref01_Wasted_l1_b, ref01_Wasted_j1, wasteF])
        (fun m i x k s hI hx hi _ _ hrec => by
          have hpx := hI x (by simp)
          have hnx := part_nn hpx
          have htx := total_part hpx
          have okx : OkP w x := ⟨by rw [hpx.1, hok.len], hnx, by omega⟩
          have gx := getD_le hnx
          have gx1 : ∀ k, 0 ≤ x.getD k 0 ∧ x.getD k 0 ≤ 1000 := fun k => by have := gx k; omega
          have r2 : 0 ≤ purseW w x ∧ purseW w x ≤ 100000 * w.Coins.length := wsum_range h gx1 w.Coins.length 0 (by omega)
          have hrec' := fun s' => hrec s' (fun t ht => hI t (by simp [ht]))
          simp only [ref01_Wasted_l1, ref01_Wasted_l1_b, wasteF]
          rw [if_pos (by simpa using hi), hx, bnd_some, PurseWorth_eq h (by omega) okx.len gx1, bnd_some, w64_id (x := _ - _) (by omega) (by omega)]
          unfold ref01_Wasted_j3 ref01_Wasted_j2
          by_cases e : purseW w l - purseW w x > s
          · rw [if_pos (by simpa using e), bnd_some, all_start h (by omega) okx (by omega), bnd_some]
            by_cases e2 : Q true w (total x).toNat 0 0 x = Q true w (total l).toNat 0 0 l
            · rw [if_pos (by simpa using e2), if_pos ⟨e, e2⟩, w64_id (x := _ - _) (by omega) (by omega)]
              exact hrec' _
            · rw [if_neg (by simpa using e2), if_neg (fun q => e2 q.2)]
              exact hrec' _
          · rw [if_neg (by simpa using e), if_neg (by simp), if_neg (fun q => e q.1)]
            exact hrec' _)
        (subsU l) 0 n 0 (by omega) rfl (by omega) (fun t ht => (subsU_mem hok.nn).1 ht)
      exact key
theorem richB_no {w : Wheel} {l : List Int} (h : richB w l = false) : (l.length : Int) ≤ 40 ∧ (valid w = true → isPurse w l = true → total l ≤ 6) := by
  simp only [richB, Bool.or_eq_false_iff, decide_eq_false_iff_not] at h
  refine ⟨by omega, fun hv hp => ?_⟩
  have := h.2
  rw [hv, hp] at this
  simpa using this
theorem law_CoinsMost (w : Wheel) (l : List Int) : law01_CoinsMost 20000 w l = some true := by
  have hw : law01_CoinsMost_j1 20000 w l true = some true := by
    unfold law01_CoinsMost_j1
    rw [works01]; rfl
  unfold law01_CoinsMost
  rw [far_eq, bnd_some]
  cases hf : farW w with
  | true => exact hw
  | false =>
  have hl := farW_len hf (n := 20000) (by omega)
  have hfc : w.Coins.length ≤ 40 := by
    simp only [farW, Bool.or_eq_false_iff, decide_eq_false_iff_not] at hf
    omega
  simp only [Bool.false_eq_true, if_false]
  rw [rich_eq (by omega) hl (by omega), bnd_some]
  cases hr : richB w l with
  | true => exact hw
  | false =>
  obtain ⟨r40, r6⟩ := richB_no hr
  obtain ⟨ord, ho1, ho2⟩ := Order_eq (n := 20000) hl (by omega) l (by omega) (by omega)
  unfold law01_CoinsMost_j1
  simp only [Bool.false_eq_true, if_false]
  rw [Copy_eq hl, bnd_some, app_nil (by omega), bnd_some, Most_eq hl (by omega) l (by omega) (by omega), bnd_some, rMost_eq hl (by omega) l (by omega) (by omega), bnd_some, Least_eq hl (by omega) l (by omega) (by omega), bnd_some, rLeast_eq hl (by omega) l (by omega) (by omega), bnd_some]
  simp only [bne_self_eq_false, Bool.false_eq_true, if_false]
  unfold law01_CoinsMost_j2
  simp only [Bool.false_eq_true, if_false]
  rw [Wasted_eq hl (by omega) l (by omega) (by omega), bnd_some, rWasted_eq hl (by omega) l (by omega) (by omega) r6, bnd_some, ho1, bnd_some]
  simp only [bne_self_eq_false, Bool.false_eq_true, if_false]
  unfold orderS at ho2
  have hsecond : ord.2 = (bestS true w l).2 := by
    unfold bestS
    by_cases hv : valid w = true
    · rw [if_pos hv] at ho2 ⊢
      by_cases hp : isPurse w l = true
      · rw [if_pos hp] at ho2 ⊢; exact ho2.1
      · rw [if_neg hp] at ho2 ⊢; rw [ho2]
    · rw [if_neg hv] at ho2 ⊢; rw [ho2]
  rw [hsecond]
  simp only [bne_self_eq_false, Bool.false_eq_true, if_false]
  rw [same_self hl, bnd_some, SameInts_self _ (by omega) (by omega), bnd_some]
  simp only [Bool.not_true, Bool.false_eq_true, if_false]
  by_cases hv : valid w = true
  · have h := valid_ok hv
    rw [if_pos hv] at ho2
    by_cases hp : isPurse w l = true
    · rw [if_pos hp] at ho2
      obtain ⟨hok, h12⟩ := purse_ok hp
      obtain ⟨_, hway⟩ := ho2
      have hc := hway.count h12
      have eb : bestS true w l = (Q true w (total l).toNat 0 0 l, 0) := by
        unfold bestS
        rw [if_pos hv, if_pos hp]
      rw [eb, show decide ((ord.1.length : Int) > 24) = false by simp; omega]
      unfold law01_CoinsMost_j3 law01_CoinsMost_j5
      simp only [bne_self_eq_false, Bool.false_eq_true, if_false]
      rw [isWay_eq (by omega) hfc hok.len (by omega) hway.ok hway.len hway.bag, bnd_some, if_pos rfl, Buys_eq h (by omega) ord.1 (by omega) hway.ok, bnd_some, hway.buys]
      simp [works01]
    · rw [if_neg hp] at ho2
      have eb : bestS true w l = (0, 1) := by
        unfold bestS
        rw [if_pos hv, if_neg hp]
      rw [eb, ho2]
      simp [law01_CoinsMost_j3, law01_CoinsMost_j4, works01]
  · rw [if_neg hv] at ho2
    have eb : bestS true w l = (0, 10) := by
      unfold bestS
      rw [if_neg hv]
    rw [eb, ho2]
    simp [law01_CoinsMost_j3, law01_CoinsMost_j4, works01]
end Go.Law
