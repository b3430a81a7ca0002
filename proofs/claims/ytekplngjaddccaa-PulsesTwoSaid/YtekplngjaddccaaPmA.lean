/-
  Plain laws.
  Conditions: none.
-/
import Derived.Test.YtekplngjaddccaaMd
import Derived.Test.YtekplngjaddccaaPlA
set_option linter.all false
namespace Go.Law
open Go Go.AM

theorem works_eq : law13_works 20000 = some true := by decide +kernel

theorem Same_l (pa pb : List Int) (hp : pa.length = pb.length) : ∀ (l k : List Int) (m : Nat), l.length = k.length → (pa ++ l).length < 1048576 → l.length < m →
    ref01_SameInts_l1 (pa ++ l) (pb ++ k) m (pa.length : Int) = some (decide (l = k)) := by
  intro l
  induction l generalizing pa pb with
  | nil =>
    intro k m hk hs hm
    obtain ⟨m, rfl⟩ : ∃ k, m = k + 1 := ⟨m - 1, by omega⟩
    have : k = [] := List.eq_nil_of_length_eq_zero (by simpa using hk.symm)
    subst this
    simp [ref01_SameInts_l1, ref01_SameInts_l1_b, ref01_SameInts_j1]
  | cons x l ih =>
    intro k m hk hs hm
    obtain ⟨m, rfl⟩ : ∃ k, m = k + 1 := ⟨m - 1, by omega⟩
    cases k with
    | nil => simp at hk
    | cons y k =>
      simp at hk hs hm
      simp only [ref01_SameInts_l1, ref01_SameInts_l1_b]
      rw [if_pos (by simp <;> omega), idx_mid, show idx (pb ++ y :: k) (pa.length : Int) = some y by rw [hp, idx_mid]]
      simp only [Option.bind_some]
      by_cases hb : x = y
      · subst hb
        have h := ih (pa ++ [x]) (pb ++ [x]) (by simp [hp]) k m hk (by simp <;> omega) (by omega)
        rw [if_neg (by simp), w64_id (by omega) (by omega)]
        simpa using h
      · rw [if_pos (by simpa using hb)]
        simp [hb]
theorem SameInts_eq {n : Nat} (a b : List Int) (hs : a.length < 1048576) (hn : a.length < n) : ref01_SameInts n a b = some (decide (a = b)) := by
  unfold ref01_SameInts
  by_cases h : a.length = b.length
  · rw [if_neg (by simp [h])]
    exact Same_l [] [] rfl a b n h (by simpa using hs) hn
  · rw [if_pos (by simp <;> omega)]
    have : a ≠ b := fun e => h (by rw [e])
    simp [this]
theorem SameInts_self {n : Nat} (a : List Int) (hs : a.length < 1048576) (hn : a.length < n) : ref01_SameInts n a a = some true := by rw [SameInts_eq a a hs hn]; simp
theorem Copy_eq (p : Pulse) (hs : p.Times.length < 1048576) : ref13_Copy p = some p := by
  unfold ref13_Copy
  rw [app_ok (by simp <;> omega)]
  rfl

theorem within_eq (a b c : Int) : pulses_within a b c = some (inR a b c) := by
  unfold pulses_within pulses_within_j1 inR
  by_cases h : b ≤ a <;> simp [h]
theorem Within_eq (a b c : Int) : ref01_Within a b c = some (inR a b c) := by
  unfold ref01_Within ref01_Within_j1 inR
  by_cases h : b ≤ a <;> simp [h]
theorem rwithin_eq (a b c : Int) : ref13_within a b c = some (inR a b c) := by simp [ref13_within, Within_eq]

/-- Do times rise, behind another one. -/
def rise : Option Int → List Int → Bool
  | _, [] => true
  | prev, x :: l => inR x 0 99999 && (match prev with | none => true | some y => decide (y < x)) && rise (some x) l
theorem nil_or_last (pre : List Int) : pre = [] ∨ ∃ q y, pre = q ++ [y] := by
  rcases List.eq_nil_or_concat pre with h | ⟨q, y, h⟩
  · exact .inl h
  · exact .inr ⟨q, y, by simpa using h⟩
theorem idx_last (q : List Int) (y : Int) (l : List Int) (h : (q ++ [y] ++ l).length < 1048576) : idx (q ++ [y] ++ l) (w64 (((q ++ [y]).length : Int) - 1)) = some y := by
  simp at h
  rw [w64_id (by simp <;> omega) (by simp <;> omega), show (((q ++ [y]).length : Int) - 1) = (q.length : Int) by simp, show q ++ [y] ++ l = q ++ y :: l by simp, idx_mid]
theorem Check_times (p : Pulse) : ∀ (l pre : List Int) (m : Nat), p.Times = pre ++ l → p.Times.length < 1048576 → l.length < m →
    pulses_Check_l1 p m (pre.length : Int) = some (cond (rise pre.getLast? l) 0 130) := by
  intro l
  induction l with
  | nil =>
    intro pre m he hs hm
    obtain ⟨m, rfl⟩ : ∃ k, m = k + 1 := ⟨m - 1, by omega⟩
    simp [pulses_Check_l1, pulses_Check_l1_b, pulses_Check_j2, he, rise]
  | cons x l ih =>
    intro pre m he hs hm
    simp at hm
    have hl : p.Times.length = pre.length + (l.length + 1) := by simp [he]
    obtain ⟨m, rfl⟩ : ∃ k, m = k + 1 := ⟨m - 1, by omega⟩
    have h := ih (pre ++ [x]) m (by simp [he]) hs (by omega)
    rw [show (((pre ++ [x]).length : Nat) : Int) = (pre.length : Int) + 1 by simp, List.getLast?_concat] at h
    simp only [pulses_Check_l1, pulses_Check_l1_b]
    rw [if_pos (by simp <;> omega), show idx p.Times (pre.length : Int) = some x by rw [he, idx_mid]]
    simp only [Option.bind_some, within_eq, rise]
    by_cases hr : inR x 0 99999 = true
    · rw [if_neg (by simp [hr])]
      rcases nil_or_last pre with rfl | ⟨q, y, rfl⟩
      · rw [if_neg (by simp)]
        simp only [pulses_Check_j3]
        rw [if_neg (by simp), w64_id (by simp) (by simp), h]
        simp [hr]
      · rw [if_pos (by simp <;> omega), show idx p.Times (w64 (((q ++ [y]).length : Int) - 1)) = some y by rw [he]; exact idx_last q y _ (by rw [← he]; exact hs)]
        simp only [Option.bind_some, pulses_Check_j3, List.getLast?_concat]
        by_cases hb : x ≤ y
        · rw [if_pos (by simpa using hb)]
          simp [hr, show ¬ y < x by omega]
        · rw [if_neg (by simpa using hb), w64_id (by omega) (by omega), h]
          simp [hr, show y < x by omega]
    · have hr' : inR x 0 99999 = false := by simpa using hr
      rw [if_pos (by simp [hr'])]
      simp [pulses_Check_j3, hr']
theorem Rising_times : ∀ (l pre : List Int) (m : Nat), (pre ++ l).length < 1048576 → l.length < m →
    ref01_Rising_l1 (pre ++ l) 0 99999 m (pre.length : Int) = some (rise pre.getLast? l) := by
  intro l
  induction l with
  | nil =>
    intro pre m hs hm
    obtain ⟨m, rfl⟩ : ∃ k, m = k + 1 := ⟨m - 1, by omega⟩
    simp [ref01_Rising_l1, ref01_Rising_l1_b, ref01_Rising_j1, rise]
  | cons x l ih =>
    intro pre m hs hm
    obtain ⟨m, rfl⟩ : ∃ k, m = k + 1 := ⟨m - 1, by omega⟩
    have h := ih (pre ++ [x]) m (by simpa using hs) (by simp at hm; omega)
    rw [show (((pre ++ [x]).length : Nat) : Int) = (pre.length : Int) + 1 by simp, List.getLast?_concat, show pre ++ [x] ++ l = pre ++ x :: l by simp] at h
    simp at hs hm
    simp only [ref01_Rising_l1, ref01_Rising_l1_b]
    rw [if_pos (by simp <;> omega), idx_mid]
    simp only [Option.bind_some, Within_eq, rise]
    by_cases hr : inR x 0 99999 = true
    · rw [if_neg (by simp [hr])]
      rcases nil_or_last pre with rfl | ⟨q, y, rfl⟩
      · rw [if_neg (by simp)]
        simp only [ref01_Rising_j2]
        rw [if_neg (by simp), w64_id (by simp) (by simp), h]
        simp [hr]
      · rw [if_pos (by simp <;> omega), idx_last q y (x :: l) (by simp at hs ⊢; omega)]
        simp only [Option.bind_some, ref01_Rising_j2, List.getLast?_concat]
        by_cases hb : x ≤ y
        · rw [if_pos (by simpa using hb)]
          simp [hr, show ¬ y < x by omega]
        · rw [if_neg (by simpa using hb), w64_id (by omega) (by omega), h]
          simp [hr, show y < x by omega]
    · have hr' : inR x 0 99999 = false := by simpa using hr
      rw [if_pos (by simp [hr'])]
      simp [ref01_Rising_j2, hr']
/-- Is a train valid. -/
def valid (p : Pulse) : Bool := inR p.Letters 1 5 && inR p.Numbers 1 5 && inR p.Pitch 1 99 && inR p.Slack 0 (p.Pitch - 1) && inR p.Gap (p.Pitch + p.Slack + 1) (p.Pause - 1) && inR p.Pause 0 999 && inR p.Sparks 0 3 && decide (p.Times.length ≤ 24) && rise none p.Times

theorem cond_b {a b : Bool} {x y : Option Int} : (if (!a) = true then x else y) = cond a y x := by cases a <;> rfl
def fields8 (p : Pulse) : List An58 := [⟨p.Letters, 1, 5⟩, ⟨p.Numbers, 1, 5⟩, ⟨p.Pitch, 1, 99⟩, ⟨p.Slack, 0, w64 (p.Pitch - 1)⟩, ⟨p.Gap, w64 ((w64 (p.Pitch + p.Slack)) + 1), w64 (p.Pause - 1)⟩, ⟨p.Pause, 0, 999⟩, ⟨p.Sparks, 0, 3⟩, ⟨(p.Times.length : Int), 0, 24⟩]
theorem Check_step (n : Nat) (p : Pulse) (k v : Nat) (x : An58) (hx : (fields8 p)[v]? = some x) (hv : v < 8) :
    pulses_Check_l2 n p (k + 1) (v : Int) = cond (inR x.n x.low x.high) (pulses_Check_l2 n p k ((v + 1 : Nat) : Int)) (some 130) := by
  simp only [pulses_Check_l2, pulses_Check_l2_b]
  rw [if_pos (by simp; omega)]
  have : idx (fields8 p) (v : Int) = some x := by unfold idx; rw [if_pos (by omega), Int.toNat_natCast, hx]
  have h2 := this
  unfold fields8 at h2
  rw [h2]
  simp only [Option.bind_some, within_eq, cond_b]
  rw [w64_id (by omega) (by omega)]
  cases inR x.n x.low x.high <;> simp
theorem Check_eq {n : Nat} (p : Pulse) (hs : p.Times.length < 1048576) (hn : p.Times.length < n) (hn2 : 10 ≤ n) : pulses_Check n p = some (cond (valid p) 0 130) := by
  obtain ⟨k, hk⟩ : ∃ k, n = k + 9 := ⟨n - 9, by omega⟩
  have ht := Check_times p p.Times [] n rfl hs hn
  simp only [List.getLast?_nil] at ht
  unfold pulses_Check
  have h0 : pulses_Check_l2 n p n 0 = pulses_Check_l2 n p (k + 8 + 1) ((0 : Nat) : Int) := by rw [hk]; rfl
  rw [h0, Check_step n p (k + 8) 0 _ rfl (by omega), Check_step n p (k + 7) 1 _ rfl (by omega), Check_step n p (k + 6) 2 _ rfl (by omega), Check_step n p (k + 5) 3 _ rfl (by omega),
    Check_step n p (k + 4) 4 _ rfl (by omega), Check_step n p (k + 3) 5 _ rfl (by omega), Check_step n p (k + 2) 6 _ rfl (by omega), Check_step n p (k + 1) 7 _ rfl (by omega)]
  have h8 : pulses_Check_l2 n p (k + 1) ((7 + 1 : Nat) : Int) = some (cond (rise none p.Times) 0 130) := by
    simp only [pulses_Check_l2, pulses_Check_l2_b]
    rw [if_neg (by decide)]
    exact ht
  rw [h8]
  simp only [valid]
  cases h1 : inR p.Letters 1 5
  · simp
  cases h2 : inR p.Numbers 1 5
  · simp
  cases h3 : inR p.Pitch 1 99
  · simp
  have b3 := inR_iff.1 h3
  rw [w64_id (x := p.Pitch - 1) (by omega) (by omega)]
  cases h4 : inR p.Slack 0 (p.Pitch - 1)
  · simp
  have b4 := inR_iff.1 h4
  rw [w64_id (x := p.Pitch + p.Slack) (by omega) (by omega), w64_id (x := p.Pitch + p.Slack + 1) (by omega) (by omega)]
  cases h6 : inR p.Pause 0 999
  · cases inR p.Gap (p.Pitch + p.Slack + 1) (w64 (p.Pause - 1)) <;> simp
  have b6 := inR_iff.1 h6
  rw [w64_id (x := p.Pause - 1) (by omega) (by omega)]
  have h7 : inR (p.Times.length : Int) 0 24 = decide (p.Times.length ≤ 24) := by
    unfold inR
    by_cases h : p.Times.length ≤ 24
    · simp [h]; omega
    · simp [h]; omega
  simp only [h7]
  cases inR p.Gap (p.Pitch + p.Slack + 1) (p.Pause - 1) <;> cases inR p.Sparks 0 3 <;> cases decide (p.Times.length ≤ 24) <;> simp
theorem rCheck_eq {n : Nat} (p : Pulse) (hs : p.Times.length < 1048576) (hn : p.Times.length < n) : ref13_Check n p = some (cond (valid p) 0 130) := by
  have ht := Rising_times p.Times [] n (by simpa using hs) hn
  simp only [List.getLast?_nil, List.nil_append, List.length_nil] at ht
  replace ht : ref01_Rising n p.Times 0 99999 = some (rise none p.Times) := ht
  unfold ref13_Check
  simp only [rwithin_eq, ht, Option.bind_some, ref13_Check_j1, valid]
  cases h1 : inR p.Letters 1 5
  · simp
  cases h2 : inR p.Numbers 1 5
  · simp
  cases h3 : inR p.Pitch 1 99
  · simp
  have b3 := inR_iff.1 h3
  rw [w64_id (x := p.Pitch - 1) (by omega) (by omega)]
  cases h4 : inR p.Slack 0 (p.Pitch - 1)
  · simp
  have b4 := inR_iff.1 h4
  rw [w64_id (x := p.Pitch + p.Slack) (by omega) (by omega), w64_id (x := p.Pitch + p.Slack + 1) (by omega) (by omega)]
  cases h6 : inR p.Pause 1 999
  · cases h5 : inR p.Gap (p.Pitch + p.Slack + 1) (p.Pause - 1)
    · simp
    · have b5 := inR_iff.1 h5
      have : inR p.Pause 0 999 = false := by
        cases hh : inR p.Pause 0 999 with
        | false => rfl
        | true =>
          have b := inR_iff.1 hh
          have : inR p.Pause 1 999 = true := inR_iff.2 ⟨by omega, b.2⟩
          rw [this] at h6
          cases h6
      simp [this]
  have b6 := inR_iff.1 h6
  have h6' : inR p.Pause 0 999 = true := inR_iff.2 ⟨by omega, b6.2⟩
  rw [w64_id (x := p.Pause - 1) (by omega) (by omega), h6']
  by_cases hl : p.Times.length ≤ 24
  · rw [if_neg (show ¬ decide ((p.Times.length : Int) > 24) = true by simp; omega)]
    cases inR p.Gap (p.Pitch + p.Slack + 1) (p.Pause - 1) <;> cases inR p.Sparks 0 3 <;> cases rise none p.Times <;> simp [hl]
  · rw [if_pos (show decide ((p.Times.length : Int) > 24) = true by simp; omega)]
    cases inR p.Gap (p.Pitch + p.Slack + 1) (p.Pause - 1) <;> cases inR p.Sparks 0 3 <;> simp [hl]
/-- What a valid train has. -/
theorem valid_iff {p : Pulse} (h : valid p = true) : (1 ≤ p.Letters ∧ p.Letters ≤ 5) ∧ (1 ≤ p.Numbers ∧ p.Numbers ≤ 5) ∧ (1 ≤ p.Pitch ∧ p.Pitch ≤ 99) ∧ (0 ≤ p.Slack ∧ p.Slack ≤ p.Pitch - 1) ∧ (p.Pitch + p.Slack + 1 ≤ p.Gap ∧ p.Gap ≤ p.Pause - 1) ∧
    (0 ≤ p.Pause ∧ p.Pause ≤ 999) ∧ (0 ≤ p.Sparks ∧ p.Sparks ≤ 3) ∧ p.Times.length ≤ 24 ∧ rise none p.Times = true := by
  simp only [valid, Bool.and_eq_true, inR_iff, decide_eq_true_eq] at h
  obtain ⟨⟨⟨⟨⟨⟨⟨⟨h1, h2⟩, h3⟩, h4⟩, h5⟩, h6⟩, h7⟩, h8⟩, h9⟩ := h
  exact ⟨h1, h2, h3, h4, h5, h6, h7, h8, h9⟩

/-- Many pulses behind each other: the first one so much later. -/
def adds (pitch : Int) : Nat → Int → List Int → Int → List Int × Int
  | 0, _, out, t => (out, t)
  | k + 1, d, out, t => adds pitch k pitch (out ++ [if out = [] then t else t + d]) (if out = [] then t else t + d)
/-- The pulses of selections. -/
def wr (p : Pulse) : List Int → List Int → Int → List Int × Int
  | [], out, t => (out, t)
  | x :: l, out, t =>
    let s1 := adds p.Pitch (x / p.Numbers + 1).toNat p.Pause out t
    let s2 := adds p.Pitch (x % p.Numbers + 1).toNat p.Gap s1.1 s1.2
    wr p l s2.1 s2.2



def selOf (p : Pulse) (g h : Int) : Int := (g - 1) * p.Numbers + h - 1
def good (p : Pulse) (g h : Int) : Bool := inR g 1 p.Letters && inR h 1 p.Numbers
def sameD (p : Pulse) (d : Int) : Bool := inR d (p.Pitch - p.Slack) (p.Pitch + p.Slack)
/-- The selections of pulses behind one at y, of whose selection so many came. -/
def cl (p : Pulse) : Int → Int → Int → List Int → List Int → Option (List Int)
  | _, g, h, out, [] => if good p g h then some (out ++ [selOf p g h]) else none
  | y, g, h, out, x :: l =>
    if x - y ≥ p.Pause then (if good p g h then cl p x 1 0 (out ++ [selOf p g h]) l else none)
    else if x - y ≥ p.Gap then (if h > 0 then none else cl p x g 1 out l)
    else if sameD p (x - y) then (if h > 0 then cl p x g (h + 1) out l else cl p x (g + 1) h out l)
    else none
def clean (p : Pulse) : List Int → Option (List Int)
  | [] => some []
  | x :: l => cl p x 1 0 [] l
def toPair : Option (List Int) → List Int × Bool
  | none => ([], false)
  | some l => (l, true)
theorem list_c1_eq (p : Pulse) (hv : valid p = true) (g h : Int) (hg : 1 ≤ g ∧ g ≤ 100000) (hh : 0 ≤ h ∧ h ≤ 100000) (out : List Int) (ho : out.length < 100000) :
    pulses_train_list_c1 (⟨g, h⟩ : Groups_) (⟨p⟩ : Train_) out = some (good p g h, out ++ [selOf p g h]) := by
  obtain ⟨v1, v2, _⟩ := valid_iff hv
  have hm : 0 ≤ (g - 1) * p.Numbers ∧ (g - 1) * p.Numbers ≤ 100000 * 5 := ⟨Int.mul_nonneg (by omega) (by omega), Int.mul_le_mul (by omega) v2.2 (by omega) (by omega)⟩
  unfold pulses_train_list_c1
  simp only
  rw [w64_id (x := g - 1) (by omega) (by omega), w64_id (x := (g - 1) * p.Numbers) (by omega) (by omega), w64_id (x := (g - 1) * p.Numbers + h) (by omega) (by omega), w64_id (by omega) (by omega), app_ok (by simp; omega)]
  simp only [Option.bind_some, within_eq, pulses_train_list_c1_j1, good, selOf]
  cases inR g 1 p.Letters <;> simp
theorem says_eq (p : Pulse) (hv : valid p = true) (d : Int) : pulses_train_says (⟨p⟩ : Train_) d = some (if d ≥ p.Pause then 3 else if d ≥ p.Gap then 2 else if sameD p d then 1 else 0) := by
  obtain ⟨v1, v2, v3, v4, v5, v6, _⟩ := valid_iff hv
  unfold pulses_train_says
  simp only [within_eq, Option.bind_some]
  rw [w64_id (x := p.Pitch - p.Slack) (by omega) (by omega), w64_id (x := p.Pitch + p.Slack) (by omega) (by omega)]
  simp only [decide_eq_true_eq]
  split
  · rfl
  · split
    · rfl
    · show (if sameD p d = true then _ else _) = _
      cases sameD p d <;> rfl
theorem list_l (p : Pulse) (hv : valid p = true) (a1 : List Int) (ha : a1.length ≤ 1000) (htm : ∀ x, x ∈ a1 → 0 ≤ x ∧ x ≤ 99999) : ∀ (l pre : List Int) (m : Nat) (y g h : Int) (out : List Int), a1 = pre ++ y :: l → l.length < m →
    1 ≤ g ∧ g ≤ pre.length + 1 → 0 ≤ h ∧ h ≤ pre.length + 1 → out.length ≤ pre.length → pulses_train_list_l1 (⟨p⟩ : Train_) a1 m ((pre.length : Int) + 1) g h out = some (toPair (cl p y g h out l)) := by
  intro l
  induction l with
  | nil =>
    intro pre m y g h out he hm hg hh ho
    have hl : a1.length = pre.length + 1 := by simp [he]
    obtain ⟨m, rfl⟩ : ∃ k, m = k + 1 := ⟨m - 1, by omega⟩
    simp only [pulses_train_list_l1, pulses_train_list_l1_b, pulses_train_list_j1]
    rw [if_neg (by simp; omega), if_pos (by simp; omega), list_c1_eq p hv g h (by omega) (by omega) out (by omega)]
    simp only [Option.bind_some, pulses_train_list_j2, cl]
    cases good p g h <;> simp [toPair]
  | cons x l ih =>
    intro pre m y g h out he hm hg hh ho
    simp at hm
    have hl : a1.length = pre.length + (l.length + 2) := by simp [he]
    obtain ⟨m, rfl⟩ : ∃ k, m = k + 1 := ⟨m - 1, by omega⟩
    have hx := htm x (by simp [he])
    have hy := htm y (by simp [he])
    have i1 : idx a1 ((pre.length : Int) + 1) = some x := by
      have := idx_mid (pre ++ [y]) x l
      rw [show (((pre ++ [y]).length : Nat) : Int) = (pre.length : Int) + 1 by simp] at this
      rw [he]; simpa using this
    have i2 : idx a1 (w64 ((pre.length : Int) + 1 - 1)) = some y := by
      rw [w64_id (by omega) (by omega), show (pre.length : Int) + 1 - 1 = pre.length by omega, he, idx_mid]
    have hr : ∀ (g' h' : Int) (out' : List Int), 1 ≤ g' ∧ g' ≤ pre.length + 2 → 0 ≤ h' ∧ h' ≤ pre.length + 2 → out'.length ≤ pre.length + 1 →
        pulses_train_list_j3 (pulses_train_list_l1 (⟨p⟩ : Train_) a1 m) ((pre.length : Int) + 1) g' h' out' = some (toPair (cl p x g' h' out' l)) := fun g' h' out' hg' hh' ho' => by
      have := ih (pre ++ [y]) m x g' h' out' (by simp [he]) (by omega) (by simp; omega) (by simp; omega) (by simp; omega)
      rw [show (((pre ++ [y]).length : Nat) : Int) = (pre.length : Int) + 1 by simp] at this
      simp only [pulses_train_list_j3]
      rw [w64_id (by omega) (by omega)]
      exact this
    simp only [pulses_train_list_l1, pulses_train_list_l1_b]
    rw [if_pos (by simp; omega), i1]
    simp only [Option.bind_some]
    rw [if_neg (by simp; omega), i2]
    simp only [Option.bind_some]
    rw [w64_id (x := x - y) (by omega) (by omega), says_eq p hv]
    simp only [Option.bind_some, cl]
    by_cases d1 : x - y ≥ p.Pause
    · simp only [d1, if_true]
      rw [if_neg (by decide), if_neg (by decide), if_pos (by decide), list_c1_eq p hv g h (by omega) (by omega) out (by omega)]
      simp only [Option.bind_some]
      cases good p g h with
      | false => simp [toPair]
      | true => simpa using hr 1 0 (out ++ [selOf p g h]) (by omega) (by omega) (by simp; omega)
    · simp only [d1, if_false]
      by_cases d2 : x - y ≥ p.Gap
      · simp only [d2, if_true]
        rw [if_neg (by decide), if_pos (by decide)]
        by_cases hp : h > 0
        · simp [hp, toPair]
        · simp only [hp, if_false]
          rw [if_neg (by simpa using hp)]
          exact hr g 1 out (by omega) (by omega) (by omega)
      · simp only [d2, if_false]
        cases hsd : sameD p (x - y) with
        | false => simp [toPair]
        | true =>
          simp only [if_true]
          rw [if_pos (by decide)]
          by_cases hp : h > 0
          · rw [if_pos (by simpa using hp), w64_id (by omega) (by omega)]
            simp only [hp, if_true]
            exact hr g (h + 1) out (by omega) (by omega) (by omega)
          · rw [if_neg (by simpa using hp), w64_id (by omega) (by omega)]
            simp only [hp, if_false]
            exact hr (g + 1) h out (by omega) (by omega) (by omega)
theorem list_eq {n : Nat} (p : Pulse) (hv : valid p = true) (l : List Int) (ha : l.length ≤ 1000) (htm : ∀ x, x ∈ l → 0 ≤ x ∧ x ≤ 99999) (hn : 1002 ≤ n) : pulses_train_list n (⟨p⟩ : Train_) l = some (toPair (clean p l)) := by
  obtain ⟨n, rfl⟩ : ∃ k, n = k + 1 := ⟨n - 1, by omega⟩
  unfold pulses_train_list
  cases l with
  | nil => simp [pulses_train_list_l1, pulses_train_list_l1_b, pulses_train_list_j1, pulses_train_list_j2, clean, toPair]
  | cons x l =>
    have h := list_l p hv (x :: l) ha htm l [] n x 1 0 [] rfl (by simp at ha; omega) (by simp) (by simp) (by simp)
    simp only [pulses_train_list_l1, pulses_train_list_l1_b]
    rw [if_pos (by simp <;> omega), show idx (x :: l) 0 = some x from rfl]
    simp only [Option.bind_some]
    rw [if_pos (by decide)]
    simp only [pulses_train_list_j3]
    rw [show w64 (0 + 1) = 1 by decide]
    simpa [clean] using h

/-- Pulses of one group behind one at y: how many, the last one's time, and what is behind. -/
def run (p : Pulse) : Int → List Int → Nat × Int × List Int
  | y, [] => (0, y, [])
  | y, x :: l => if sameD p (x - y) then ((run p x l).1 + 1, (run p x l).2) else (0, y, x :: l)

theorem wrapU {x : Int} (h0 : 0 ≤ x) (h1 : x < 18446744073709551616) : IntKind.u64.wrap x = x := by
  have : IntKind.u64.wrap x = x % 18446744073709551616 := by simp [IntKind.wrap, IntKind.bits, IntKind.signed]
  rw [this]
  omega
theorem shl_one {i : Nat} (h : i < 60) : shl64 1 (i : Int) = some ((2 ^ i : Nat) : Int) := by
  unfold shl64
  rw [if_pos (by omega), Int.toNat_natCast, Nat.min_eq_left (by omega)]
  have h2 : (2 : Nat) ^ i < 2 ^ 60 := Nat.pow_lt_pow_right (by omega) h
  have h3 : (2 : Int) ^ i = ((2 ^ i : Nat) : Int) := by push_cast; rfl
  have h60 : (2 : Nat) ^ 60 = 1152921504606846976 := by decide
  rw [h3]
  generalize (2 : Nat) ^ i = w at h2 ⊢
  rw [show (1 : Int) * (w : Int) = w by omega, wrapU (by omega) (by omega)]
theorem or_nat {a b : Nat} (ha : a < 2 ^ 60) (hb : b < 2 ^ 60) : or64 (a : Int) (b : Int) = ((a ||| b : Nat) : Int) := by
  have h60 : (2 : Nat) ^ 60 = 1152921504606846976 := by decide
  have hab : a ||| b < 2 ^ 60 := Nat.or_lt_two_pow ha hb
  unfold or64
  have : (BitVec.ofInt 64 (a : Int) ||| BitVec.ofInt 64 (b : Int)).toNat = a ||| b := by
    rw [BitVec.toNat_or]
    simp only [BitVec.ofInt_natCast, BitVec.toNat_ofNat]
    rw [Nat.mod_eq_of_lt (by omega), Nat.mod_eq_of_lt (by omega)]
  rw [this, wrapU (by omega) (by omega)]
theorem has_nat {a i : Nat} (ha : a < 2 ^ 60) (hi : i < 60) : pulses_set_has (a : Int) (i : Int) = some (a.testBit i) := by
  have h60 : (2 : Nat) ^ 60 = 1152921504606846976 := by decide
  unfold pulses_set_has shr64
  rw [if_pos (by omega), Int.toNat_natCast, Nat.min_eq_left (by omega)]
  have h3 : ((a : Int)).fdiv (2 ^ i) = ((a / 2 ^ i : Nat) : Int) := by
    rw [show ((2 : Int) ^ i) = ((2 ^ i : Nat) : Int) by push_cast; rfl]
    generalize (2 : Nat) ^ i = w
    rw [Int.fdiv_eq_ediv_of_nonneg _ (by omega)]
    rfl
  rw [h3]
  simp only [Option.bind_some]
  have h4 : and64 ((a / 2 ^ i : Nat) : Int) 1 = ((a / 2 ^ i % 2 : Nat) : Int) := by
    unfold and64
    have hd : a / 2 ^ i ≤ a := Nat.div_le_self _ _
    have : (BitVec.ofInt 64 ((a / 2 ^ i : Nat) : Int) &&& BitVec.ofInt 64 1).toNat = a / 2 ^ i % 2 := by
      rw [BitVec.toNat_and]
      simp only [BitVec.ofInt_natCast, BitVec.toNat_ofNat]
      rw [Nat.mod_eq_of_lt (by omega), show (BitVec.ofInt 64 1).toNat = 1 by decide, Nat.and_one_is_mod]
    rw [this, wrapU (by omega) (by omega)]
  rw [h4, Nat.testBit_eq_decide_div_mod_eq]
  congr 1
  rcases Nat.mod_two_eq_zero_or_one (a / 2 ^ i) with h | h <;> rw [h] <;> decide
/-- All rising lists of so many of these positions. -/
def cmb : Nat → List Nat → List (List Nat)
  | 0, _ => [[]]
  | _ + 1, [] => []
  | k + 1, i :: ps => (cmb k ps).map (i :: ·) ++ cmb (k + 1) ps
def bits (first : Nat) (is : List Nat) : Nat := is.foldl (fun a i => a ||| 2 ^ i) first

/-- Yielding one after the other, until the answer is no. -/
def yieldAll {S : Type} (aF : Int → S → Option (Bool × S)) : List Int → S → Option (Bool × S)
  | [], s => some (true, s)
  | x :: l, s => (aF x s).bind fun r => if r.1 = true then yieldAll aF l r.2 else some (false, r.2)
theorem yieldAll_append {S : Type} (aF : Int → S → Option (Bool × S)) : ∀ (l k : List Int) (s : S), yieldAll aF (l ++ k) s = (yieldAll aF l s).bind fun r => if r.1 = true then yieldAll aF k r.2 else some (false, r.2)
  | [], k, s => by simp [yieldAll]
  | x :: l, k, s => by
    simp only [List.cons_append, yieldAll]
    cases h : aF x s with
    | none => rfl
    | some r =>
      simp only [Option.bind_some]
      cases hr : r.1 with
      | true => simp only [if_true]; exact yieldAll_append aF l k r.2
      | false => simp
def masks (first k a m : Nat) : List Int := (cmb k (List.range' a m)).map fun is => ((bits first is : Nat) : Int)
theorem masks_succ (first k a m : Nat) : masks first (k + 1) a (m + 1) = masks (first ||| 2 ^ a) k (a + 1) m ++ masks first (k + 1) (a + 1) m := by
  unfold masks
  rw [List.range'_succ]
  simp only [cmb, List.map_append, List.map_map]
  rfl
theorem sets_eq {S : Type} (aF : Int → S → Option (Bool × S)) (p : Pulse) (hl : p.Times.length ≤ 40) : ∀ (k n first a : Nat) (s : S), k + 50 ≤ n → k ≤ 1000 → first < 2 ^ 60 → a ≤ p.Times.length →
    pulses_train_sets n aF (⟨p⟩ : Train_) (first : Int) (a : Int) (k : Int) s = yieldAll aF (masks first k a (p.Times.length - a)) s := by
  intro k
  induction k with
  | zero =>
    intro n first a s hn hk hf ha
    obtain ⟨n, rfl⟩ : ∃ j, n = j + 1 := ⟨n - 1, by omega⟩
    simp only [pulses_train_sets, pulses_train_sets_b]
    rw [if_pos (by simp)]
    have : masks first 0 a (p.Times.length - a) = [(first : Int)] := by simp [masks, cmb, bits]
    rw [this]
    simp only [yieldAll]
    cases h : aF (first : Int) s with
    | none => rfl
    | some r =>
      simp only [Option.bind_some]
      rcases r with ⟨b, s'⟩
      cases b <;> rfl
  | succ k ih =>
    intro n first a s hn hk hf ha
    obtain ⟨n, rfl⟩ : ∃ j, n = j + 1 := ⟨n - 1, by omega⟩
    simp only [pulses_train_sets, pulses_train_sets_b]
    rw [if_neg (by simp; omega)]
    have key : ∀ (d m a : Nat) (s : S), d = p.Times.length - a → a ≤ p.Times.length → d < m →
        pulses_train_sets_l1 (pulses_train_sets n aF) (⟨p⟩ : Train_) (first : Int) ((k + 1 : Nat) : Int) m (a : Int) s = yieldAll aF (masks first (k + 1) a d) s := by
      intro d
      induction d with
      | zero =>
        intro m a s hd ha' hm
        obtain ⟨m, rfl⟩ : ∃ j, m = j + 1 := ⟨m - 1, by omega⟩
        simp only [pulses_train_sets_l1, pulses_train_sets_l1_b, pulses_train_sets_j1]
        rw [if_neg (by simp; omega)]
        rfl
      | succ d ihd =>
        intro m a s hd ha' hm
        obtain ⟨m, rfl⟩ : ∃ j, m = j + 1 := ⟨m - 1, by omega⟩
        simp only [pulses_train_sets_l1, pulses_train_sets_l1_b]
        rw [if_pos (by simp; omega), shl_one (by omega)]
        simp only [Option.bind_some]
        have h2 : (2 : Nat) ^ a < 2 ^ 60 := Nat.pow_lt_pow_right (by omega) (by omega)
        rw [or_nat hf h2, w64_id (x := (a : Int) + 1) (by omega) (by omega), w64_id (x := ((k + 1 : Nat) : Int) - 1) (by omega) (by omega)]
        have h3 := ih n (first ||| 2 ^ a) (a + 1) s (by omega) (by omega) (Nat.or_lt_two_pow hf h2) (by omega)
        rw [show (((k + 1 : Nat) : Int) - 1) = (k : Int) by omega, show ((a : Int) + 1) = ((a + 1 : Nat) : Int) by omega, h3, masks_succ, yieldAll_append, show p.Times.length - (a + 1) = d by omega]
        cases hy : yieldAll aF (masks (first ||| 2 ^ a) k (a + 1) d) s with
        | none => rfl
        | some r =>
          simp only [Option.bind_some]
          cases hr : r.1 with
          | true =>
            simp only [Bool.not_true, Bool.false_eq_true, if_false, if_true]
            exact ihd m (a + 1) r.2 (by omega) (by omega) (by omega)
          | false => simp
    exact key (p.Times.length - a) n a s rfl ha (by omega)

/-- The times without the pulses at some places. -/
def less (f : Nat → Bool) : Nat → List Int → List Int
  | _, [] => []
  | i, t :: l => if f i then less f (i + 1) l else t :: less f (i + 1) l
theorem less_mem (f : Nat → Bool) : ∀ (l : List Int) (i : Nat) (x : Int), x ∈ less f i l → x ∈ l
  | [], _, _, h => by simp [less] at h
  | t :: l, i, x, h => by
    simp only [less] at h
    split at h
    · exact List.mem_cons_of_mem _ (less_mem f l (i + 1) x h)
    · rcases List.mem_cons.1 h with rfl | h
      · simp
      · exact List.mem_cons_of_mem _ (less_mem f l (i + 1) x h)
theorem less_len (f : Nat → Bool) : ∀ (l : List Int) (i : Nat), (less f i l).length ≤ l.length
  | [], _ => by simp [less]
  | t :: l, i => by
    have := less_len f l (i + 1)
    simp only [less]
    split <;> simp <;> omega
theorem rise_mem : ∀ (l : List Int) (prev : Option Int), rise prev l = true → ∀ x, x ∈ l → 0 ≤ x ∧ x ≤ 99999
  | [], _, _, x, h => by simp at h
  | t :: l, prev, h, x, hx => by
    simp only [rise, Bool.and_eq_true] at h
    rcases List.mem_cons.1 hx with rfl | hx
    · exact inR_iff.1 h.1.1
    · exact rise_mem l _ h.2 x hx
def readF {S : Type} (p : Pulse) (aF : Reading_ → S → Option (Bool × S)) (b : Nat) (s : S) : Option (Bool × S) :=
  match clean p (less b.testBit 0 p.Times) with
  | none => some (true, s)
  | some l => aF (⟨(b : Int), l⟩ : Reading_) s
theorem inner_eq {S : Type} {n : Nat} (p : Pulse) (hv : valid p = true) (hn : 1010 ≤ n) (aF : Reading_ → S → Option (Bool × S)) (b : Nat) (hb : b < 2 ^ 60) (s : S) :
    pulses_train_readings_c1_c1 n aF (b : Int) (⟨p⟩ : Train_) s = readF p aF b s := by
  obtain ⟨v1, v2, v3, v4, v5, v6, v7, v8, v9⟩ := valid_iff hv
  have htm := rise_mem p.Times none v9
  have key : ∀ (l pre : List Int) (m : Nat) (left : List Int), p.Times = pre ++ l → l.length < m → left.length ≤ pre.length →
      (left ++ less b.testBit pre.length l = less b.testBit 0 p.Times) → pulses_train_readings_c1_c1_l1 n (b : Int) aF s (⟨p⟩ : Train_) m left (pre.length : Int) = readF p aF b s := by
    intro l
    induction l with
    | nil =>
      intro pre m left he hm hlen hle
      obtain ⟨m, rfl⟩ : ∃ k, m = k + 1 := ⟨m - 1, by omega⟩
      simp only [pulses_train_readings_c1_c1_l1, pulses_train_readings_c1_c1_l1_b]
      rw [if_neg (by simp [he])]
      simp only [less, List.append_nil] at hle
      subst hle
      simp only [pulses_train_readings_c1_c1_j1]
      rw [list_eq p hv _ (by have := less_len b.testBit p.Times 0; omega) (fun x hx => htm x (less_mem _ _ _ _ hx)) (by omega)]
      simp only [Option.bind_some, readF]
      cases clean p (less b.testBit 0 p.Times) with
      | none => simp [toPair, pulses_train_readings_c1_c1_j2]
      | some l =>
        simp only [toPair, Bool.not_true, Bool.false_eq_true, if_false]
        cases aF (⟨(b : Int), l⟩ : Reading_) s with
        | none => rfl
        | some r => rfl
    | cons x l ih =>
      intro pre m left he hm hlen hle
      simp at hm
      have hl : p.Times.length = pre.length + (l.length + 1) := by simp [he]
      obtain ⟨m, rfl⟩ : ∃ k, m = k + 1 := ⟨m - 1, by omega⟩
      simp only [pulses_train_readings_c1_c1_l1, pulses_train_readings_c1_c1_l1_b]
      rw [if_pos (by simp; omega), show idx p.Times (pre.length : Int) = some x by rw [he, idx_mid]]
      simp only [Option.bind_some]
      rw [has_nat hb (by omega)]
      simp only [Option.bind_some, pulses_train_readings_c1_c1_j3]
      have hc : (((pre ++ [x]).length : Nat) : Int) = (pre.length : Int) + 1 := by simp
      cases hbit : b.testBit pre.length with
      | true =>
        simp only [Bool.not_true, Bool.false_eq_true, if_false]
        rw [w64_id (by omega) (by omega)]
        have h := ih (pre ++ [x]) m left (by simp [he]) (by omega) (by simp; omega) (by rw [← hle]; simp [less, hbit])
        rw [hc] at h
        exact h
      | false =>
        simp only [Bool.not_false, if_true]
        rw [app_ok (by simp; omega)]
        simp only [Option.bind_some]
        rw [w64_id (by omega) (by omega)]
        have h := ih (pre ++ [x]) m (left ++ [x]) (by simp [he]) (by omega) (by simp; omega) (by rw [← hle]; simp [less, hbit])
        rw [hc] at h
        exact h
  exact key p.Times [] n [] rfl (by omega) (by simp) (by simp)
theorem yieldAll_congr {S : Type} {aF bF : Int → S → Option (Bool × S)} : ∀ (l : List Int) (s : S), (∀ x, x ∈ l → ∀ s, aF x s = bF x s) → yieldAll aF l s = yieldAll bF l s
  | [], _, _ => rfl
  | x :: l, s, h => by
    simp only [yieldAll]
    rw [h x (by simp) s]
    congr 1
    funext r
    rw [yieldAll_congr l r.2 fun y hy => h y (by simp [hy])]
theorem cmb_mem : ∀ (k : Nat) (ps : List Nat) (is : List Nat), is ∈ cmb k ps → ∀ i, i ∈ is → i ∈ ps
  | 0, _, is, h, i, hi => by simp [cmb] at h; subst h; simp at hi
  | k + 1, [], is, h, _, _ => by simp [cmb] at h
  | k + 1, j :: ps, is, h, i, hi => by
    simp only [cmb, List.mem_append, List.mem_map] at h
    rcases h with ⟨is', h1, rfl⟩ | h
    · rcases List.mem_cons.1 hi with rfl | hi
      · simp
      · exact List.mem_cons_of_mem _ (cmb_mem k ps is' h1 i hi)
    · exact List.mem_cons_of_mem _ (cmb_mem (k + 1) ps is h i hi)
theorem bits_lt : ∀ (is : List Nat) (first : Nat), first < 2 ^ 60 → (∀ i, i ∈ is → i < 60) → bits first is < 2 ^ 60
  | [], _, h, _ => h
  | i :: is, first, h, hi => bits_lt is (first ||| 2 ^ i) (Nat.or_lt_two_pow h (Nat.pow_lt_pow_right (by omega) (hi i (by simp)))) fun j hj => hi j (by simp [hj])
/-- All readings with so many sparks, as the code finds them. -/
def readsK (p : Pulse) (k : Nat) : List Reading_ := (cmb k (List.range' 0 p.Times.length)).filterMap fun is => (clean p (less (bits 0 is).testBit 0 p.Times)).map fun l => (⟨((bits 0 is : Nat) : Int), l⟩ : Reading_)

theorem cmb_len : ∀ (k : Nat) (ps : List Nat), (cmb k ps).length ≤ (ps.length + 1) ^ k
  | 0, ps => by simp [cmb]
  | k + 1, [] => by simp [cmb]
  | k + 1, i :: ps => by
    have h1 := cmb_len k ps
    have h2 := cmb_len (k + 1) ps
    simp only [cmb, List.length_append, List.length_map, List.length_cons]
    have h3 : (ps.length + 1) ^ k ≤ (ps.length + 1 + 1) ^ k := Nat.pow_le_pow_left (by omega) k
    calc (cmb k ps).length + (cmb (k + 1) ps).length ≤ (ps.length + 1) ^ k + (ps.length + 1) ^ (k + 1) := by omega
      _ = (ps.length + 1) ^ k * (ps.length + 1 + 1) := by rw [Nat.pow_succ, Nat.mul_add (_ ^ k) (ps.length + 1) 1]; omega
      _ ≤ (ps.length + 1 + 1) ^ k * (ps.length + 1 + 1) := Nat.mul_le_mul_right _ h3
      _ = (ps.length + 1 + 1) ^ (k + 1) := (Nat.pow_succ ..).symm
theorem pos_lt {p : Pulse} (hl : p.Times.length ≤ 40) {k : Nat} {is : List Nat} (h : is ∈ cmb k (List.range' 0 p.Times.length)) : bits 0 is < 2 ^ 60 :=
  bits_lt is 0 (by omega) fun i hi => by
    have := cmb_mem k _ is h i hi
    simp at this
    omega
theorem readings_eq {S : Type} {n : Nat} (p : Pulse) (hv : valid p = true) (hn : 1100 ≤ n) (aF : Reading_ → S → Option (Bool × S)) (k : Nat) (hk : k ≤ 1000) (s : S) :
    pulses_train_readings_c1 n aF (⟨p⟩ : Train_) (k : Int) s = (yieldAll (fun x s => readF p aF x.toNat s) (masks 0 k 0 p.Times.length) s).bind fun r => some ((), r.2) := by
  obtain ⟨v1, v2, v3, v4, v5, v6, v7, v8, v9⟩ := valid_iff hv
  unfold pulses_train_readings_c1
  have h := sets_eq (fun (x0 : Int) s => pulses_train_readings_c1_c1 n aF x0 (⟨p⟩ : Train_) s) p (by omega) k n 0 0 s (by omega) hk (by decide) (by omega)
  rw [show p.Times.length - 0 = p.Times.length by omega] at h
  rw [show pulses_train_sets n (fun (x0 : Int) s => pulses_train_readings_c1_c1 n aF x0 (⟨p⟩ : Train_) s) (⟨p⟩ : Train_) 0 0 (k : Int) s = _ from h]
  rw [yieldAll_congr (bF := fun x s => readF p aF x.toNat s) _ _ fun x hx s => ?_]
  unfold masks at hx
  obtain ⟨is, his, rfl⟩ := List.mem_map.1 hx
  rw [inner_eq p hv (by omega) aF (bits 0 is) (pos_lt (by omega) his) s]
  simp
theorem append_all (p : Pulse) : ∀ (L : List (List Nat)) (out : List Reading_), out.length + L.length ≤ 1048576 →
    yieldAll (fun x s => readF p slices_AppendSeq_pulsesreading_r1 x.toNat s) (L.map fun is => ((bits 0 is : Nat) : Int)) out =
      some (true, out ++ L.filterMap fun is => (clean p (less (bits 0 is).testBit 0 p.Times)).map fun l => (⟨((bits 0 is : Nat) : Int), l⟩ : Reading_))
  | [], out, _ => by simp [yieldAll]
  | is :: L, out, h => by
    simp at h
    simp only [List.map_cons, yieldAll, readF, Int.toNat_natCast, List.filterMap_cons]
    cases clean p (less (bits 0 is).testBit 0 p.Times) with
    | none =>
      simp only [Option.bind_some, if_true, Option.map_none]
      exact append_all p L out (by omega)
    | some l =>
      simp only [slices_AppendSeq_pulsesreading_r1]
      rw [app_ok (by simp; omega)]
      simp only [Option.bind_some, if_true, Option.map_some]
      refine Eq.trans (append_all p L (out ++ [(⟨((bits 0 is : Nat) : Int), l⟩ : Reading_)]) (by simp; omega)) ?_
      simp
theorem AppendSeq_eq {n : Nat} (p : Pulse) (hv : valid p = true) (hn : 1100 ≤ n) (k : Nat) (hk : k ≤ 3) (out : List Reading_) (ho : out.length ≤ 500000) :
    slices_AppendSeq_pulsesreading n out (⟨p⟩ : Train_) (k : Int) = some (out ++ readsK p k) := by
  obtain ⟨v1, v2, v3, v4, v5, v6, v7, v8, v9⟩ := valid_iff hv
  unfold slices_AppendSeq_pulsesreading
  rw [readings_eq p hv hn _ k (by omega) out]
  have hlen := cmb_len k (List.range' 0 p.Times.length)
  have hb : ((List.range' 0 p.Times.length).length + 1) ^ k ≤ 25 ^ 3 := Nat.le_trans (Nat.pow_le_pow_left (by simp; omega) k) (Nat.pow_le_pow_right (by omega) hk)
  have h25 : 25 ^ 3 = 15625 := by decide
  unfold masks
  rw [append_all p _ out (by omega)]
  rfl
theorem readsK_len (p : Pulse) (hl : p.Times.length ≤ 24) (k : Nat) (hk : k ≤ 3) : (readsK p k).length ≤ 15625 := by
  unfold readsK
  have h1 := List.length_filterMap_le (fun is => (clean p (less (bits 0 is).testBit 0 p.Times)).map fun l => (⟨((bits 0 is : Nat) : Int), l⟩ : Reading_)) (cmb k (List.range' 0 p.Times.length))
  have hlen := cmb_len k (List.range' 0 p.Times.length)
  have hb : ((List.range' 0 p.Times.length).length + 1) ^ k ≤ 25 ^ 3 := Nat.le_trans (Nat.pow_le_pow_left (by simp; omega) k) (Nat.pow_le_pow_right (by omega) hk)
  have h25 : 25 ^ 3 = 15625 := by decide
  omega
/-- All readings, as the code lists them. -/
def readsTo (p : Pulse) (a : Nat) : Nat → List Reading_
  | 0 => []
  | d + 1 => readsK p a ++ readsTo p (a + 1) d
theorem open_l {S : Type} {n : Nat} (p : Pulse) (hv : valid p = true) (hn : 1100 ≤ n) (r3 : Bool × S) : ∀ (d k m : Nat) (out : List Reading_), (d : Int) + k = p.Sparks + 1 → d < m → out.length ≤ 20000 * k →
    pulses_open_l1 n p r3 m out (k : Int) = pulses_open_j1 r3 (out ++ readsTo p k d) := by
  obtain ⟨v1, v2, v3, v4, v5, v6, v7, v8, v9⟩ := valid_iff hv
  intro d
  induction d with
  | zero =>
    intro k m out hd hm ho
    obtain ⟨m, rfl⟩ : ∃ j, m = j + 1 := ⟨m - 1, by omega⟩
    simp only [pulses_open_l1, pulses_open_l1_b]
    rw [w64_id (x := p.Sparks + 1) (by omega) (by omega), if_neg (by simp; omega)]
    simp [readsTo]
  | succ d ih =>
    intro k m out hd hm ho
    obtain ⟨m, rfl⟩ : ∃ j, m = j + 1 := ⟨m - 1, by omega⟩
    simp only [pulses_open_l1, pulses_open_l1_b]
    rw [w64_id (x := p.Sparks + 1) (by omega) (by omega), if_pos (by simp; omega), AppendSeq_eq p hv hn k (by omega) out (by omega)]
    simp only [Option.bind_some]
    rw [w64_id (by omega) (by omega)]
    have hl := readsK_len p v8 k (by omega)
    have h := ih (k + 1) m (out ++ readsK p k) (by push_cast at hd ⊢; omega) (by omega) (by simp; omega)
    push_cast at h
    rw [h, readsTo, List.append_assoc]
/-- What open answers to those who ask for something. -/
theorem open_eq {S : Type} {n : Nat} (p : Pulse) (hs : p.Times.length ≤ 1000) (hn : 1100 ≤ n) (aF : Train_ → S → Option (Bool × S)) (st : S) (b : Bool) (st' : S) (hF : valid p = true → aF (⟨p⟩ : Train_) st = some (b, st')) :
    ∃ s'', pulses_open n aF p st = some ((if valid p = true then (if b = true then (if readsTo p 0 (p.Sparks + 1).toNat = [] then ([], 3) else (readsTo p 0 (p.Sparks + 1).toNat, 0)) else ([], 1)) else ([], 130)), s'') := by
  unfold pulses_open
  rw [Check_eq p (by omega) (by omega) (by omega)]
  simp only [Option.bind_some]
  cases hv : valid p with
  | false => exact ⟨st, by simp⟩
  | true =>
    obtain ⟨v1, v2, v3, v4, v5, v6, v7, v8, v9⟩ := valid_iff hv
    simp only [cond_true, bne_self_eq_false, Bool.false_eq_true, if_false, hF hv, Option.bind_some, if_true]
    cases b with
    | false => exact ⟨st', by simp⟩
    | true =>
      have h := open_l (n := n) p hv hn (true, st') (p.Sparks + 1).toNat 0 n [] (by simp; omega) (by omega) (by simp)
      simp only [Bool.not_true, Bool.false_eq_true, if_false, if_true]
      rw [show pulses_open_l1 n p (true, st') n [] 0 = _ from h]
      simp only [List.nil_append, pulses_open_j1]
      by_cases hr : readsTo p 0 (p.Sparks + 1).toNat = []
      · exact ⟨st', by simp [hr]⟩
      · refine ⟨st', ?_⟩
        rw [if_neg (by have := List.length_pos_iff.2 hr; simp; omega), if_neg hr]

def sgo (f : List Nat → List (List Nat)) : List Nat → List (List Nat)
  | [] => []
  | i :: ps => (f ps).map (i :: ·) ++ sgo f ps
/-- All rising lists of at most so many of these positions, as the specification lists them. -/
def sub : Nat → List Nat → List (List Nat)
  | 0, _ => [[]]
  | k + 1, ps => [] :: sgo (sub k) ps
/-- All rising lists of at most so many, as the code lists them. -/
def cmbs (k : Nat) (ps : List Nat) : List (List Nat) := (List.range (k + 1)).flatMap fun j => cmb j ps
theorem sgo_perm {f g : List Nat → List (List Nat)} (h : ∀ ps, (f ps).Perm (g ps)) : ∀ ps, (sgo f ps).Perm (sgo g ps)
  | [] => .refl _
  | i :: ps => ((h ps).map _).append (sgo_perm h ps)
theorem flat_app {α β : Type} (f g : α → List β) : ∀ L : List α, (L.flatMap f ++ L.flatMap g).Perm (L.flatMap fun x => f x ++ g x)
  | [] => .refl _
  | x :: L => by
    simp only [List.flatMap_cons, List.append_assoc]
    refine List.Perm.append_left _ ?_
    exact (List.perm_append_comm_assoc (L.flatMap f) (g x) (L.flatMap g)).trans (List.Perm.append_left _ (flat_app f g L))
theorem sgo_flat (L : List Nat) : ∀ ps, (sgo (fun ps => L.flatMap fun j => cmb j ps) ps).Perm (L.flatMap fun j => cmb (j + 1) ps)
  | [] => by
    simp only [sgo]
    have : (L.flatMap fun j => cmb (j + 1) ([] : List Nat)) = [] := by simp [cmb]
    rw [this]
  | i :: ps => by
    simp only [sgo, cmb]
    have h := sgo_flat L ps
    refine ((List.Perm.refl _).append h).trans ?_
    rw [List.map_flatMap]
    exact flat_app _ _ L
theorem sub_perm : ∀ (k : Nat) (ps : List Nat), (sub k ps).Perm (cmbs k ps)
  | 0, ps => by simp [sub, cmbs, cmb]
  | k + 1, ps => by
    have h1 := sgo_perm (fun ps => sub_perm k ps) ps
    have h2 := sgo_flat (List.range (k + 1)) ps
    simp only [sub]
    unfold cmbs
    rw [List.range_succ_eq_map]
    simp only [List.flatMap_cons, cmb, List.singleton_append, List.flatMap_map]
    exact (h1.trans h2).cons _
theorem flat_len (m K : Nat) (ps : List Nat) (hm : ps.length ≤ m) : ∀ (k : Nat), k ≤ K + 1 → ((List.range k).flatMap fun j => cmb j ps).length ≤ k * (m + 1) ^ K
  | 0, _ => by simp
  | k + 1, hk => by
    have h := flat_len m K ps hm k (by omega)
    have h1 := cmb_len k ps
    have h2 : (ps.length + 1) ^ k ≤ (m + 1) ^ k := Nat.pow_le_pow_left (by omega) k
    have h3 : (m + 1) ^ k ≤ (m + 1) ^ K := Nat.pow_le_pow_right (by omega) (by omega)
    rw [List.range_succ, List.flatMap_append, List.length_append, Nat.add_mul]
    simp only [List.flatMap_cons, List.flatMap_nil, List.append_nil]
    omega
def ints' (is : List Nat) : List Int := List.map (fun (i : Nat) => (i : Int)) is

theorem bits_test : ∀ (is : List Nat) (first j : Nat), (bits first is).testBit j = (first.testBit j || is.contains j)
  | [], first, j => by simp [bits]
  | i :: is, first, j => by
    have h := bits_test is (first ||| 2 ^ i) j
    rw [show bits first (i :: is) = bits (first ||| 2 ^ i) is from rfl, h, Nat.testBit_or, Nat.testBit_two_pow]
    simp only [List.contains_cons, Bool.or_assoc]
    congr 1
    congr 1
    by_cases e : i = j
    · subst e; simp
    · have e' : ¬ j = i := fun h => e h.symm
      simp [e, e']
theorem less_congr {f g : Nat → Bool} (h : ∀ j, f j = g j) : ∀ (l : List Int) (i : Nat), less f i l = less g i l
  | [], _ => rfl
  | t :: l, i => by simp only [less, h i, less_congr h l]
/-- What the pulses without some read as. -/
def rd (p : Pulse) (is : List Nat) : Option (List Int) := clean p (less (fun j => is.contains j) 0 p.Times)
theorem rd_bits (p : Pulse) (is : List Nat) : clean p (less (bits 0 is).testBit 0 p.Times) = rd p is := by
  unfold rd
  rw [less_congr (g := fun j => is.contains j) fun j => by rw [bits_test]; simp]


def mkP (p : Pulse) (is : List Nat) : Option Reading_ := (rd p is).map fun l => (⟨((bits 0 is : Nat) : Int), l⟩ : Reading_)
def spots (p : Pulse) : List Nat := List.range' 0 p.Times.length
theorem readsK_eq (p : Pulse) (k : Nat) : readsK p k = (cmb k (spots p)).filterMap (mkP p) := by
  unfold readsK mkP spots
  congr 1
  funext is
  rw [rd_bits]
theorem readsTo_eq (p : Pulse) : ∀ (d a : Nat), readsTo p a d = ((List.range' a d).flatMap fun j => cmb j (spots p)).filterMap (mkP p)
  | 0, a => by simp [readsTo]
  | d + 1, a => by
    rw [List.range'_succ]
    simp only [readsTo, readsTo_eq p d (a + 1), readsK_eq, List.flatMap_cons, List.filterMap_append]
/-- The places of the code's readings, and of those of the specification. -/
def goodP (p : Pulse) (k : Nat) : List (List Nat) := (cmbs k (spots p)).filter fun is => (rd p is).isSome
def goodR (p : Pulse) (k : Nat) : List (List Nat) := (sub k (spots p)).filter fun is => (rd p is).isSome
theorem good_perm (p : Pulse) (k : Nat) : (goodR p k).Perm (goodP p k) := (sub_perm k (spots p)).filter _
/-- The list of a reading. -/
def listOf (p : Pulse) (is : List Nat) : List Int := (rd p is).getD []
theorem filterMap_good {α : Type} (p : Pulse) (g : List Nat → List Int → α) : ∀ L : List (List Nat), (L.filterMap fun is => (rd p is).map (g is)) = (L.filter fun is => (rd p is).isSome).map fun is => g is (listOf p is)
  | [] => rfl
  | is :: L => by
    simp only [List.filterMap_cons, List.filter_cons, listOf]
    cases h : rd p is with
    | none => simp only [Option.map_none, Option.isSome_none, Bool.false_eq_true, if_false]; exact filterMap_good p g L
    | some l => simp only [Option.map_some, Option.isSome_some, if_true, List.map_cons, h, Option.getD_some]; rw [filterMap_good p g L]; rfl
theorem readsTo_good (p : Pulse) (k : Nat) : readsTo p 0 (k + 1) = (goodP p k).map fun is => (⟨((bits 0 is : Nat) : Int), listOf p is⟩ : Reading_) := by
  rw [readsTo_eq, ← List.range_eq_range']
  exact filterMap_good p (fun is l => (⟨((bits 0 is : Nat) : Int), l⟩ : Reading_)) _

theorem sub_len14 {k : Nat} {ps : List Nat} (hk : k ≤ 3) (hp : ps.length ≤ 14) : (sub k ps).length ≤ 13500 := by
  rw [(sub_perm k ps).length_eq]
  refine Nat.le_trans (flat_len 14 3 ps hp (k + 1) (by omega)) ?_
  have h25 : (14 + 1) ^ 3 = 3375 := by decide
  rw [h25]
  omega

/-- What open answers: the readings of the code. -/
def openR (p : Pulse) : List Reading_ × Int :=
  if valid p = true then (if goodP p p.Sparks.toNat = [] then ([], 3) else ((goodP p p.Sparks.toNat).map fun is => (⟨((bits 0 is : Nat) : Int), listOf p is⟩ : Reading_), 0)) else ([], 130)
theorem readsTo_valid {p : Pulse} (hv : valid p = true) : readsTo p 0 (p.Sparks + 1).toNat = (goodP p p.Sparks.toNat).map fun is => (⟨((bits 0 is : Nat) : Int), listOf p is⟩ : Reading_) := by
  obtain ⟨v1, v2, v3, v4, v5, v6, v7, v8, v9⟩ := valid_iff hv
  rw [show (p.Sparks + 1).toNat = p.Sparks.toNat + 1 by omega, readsTo_good]
theorem open_any {n : Nat} (p : Pulse) (hs : p.Times.length ≤ 1000) (hn : 1100 ≤ n) : ∃ s'', pulses_open n (fun (x0 : Train_) (_ : Unit) => (pulses_anything x0).map fun y => (y, ())) p () = some (openR p, s'') := by
  obtain ⟨s'', h⟩ := open_eq (n := n) p hs hn (fun (x0 : Train_) (_ : Unit) => (pulses_anything x0).map fun y => (y, ())) () true () (fun _ => rfl)
  refine ⟨s'', ?_⟩
  rw [h]
  unfold openR
  cases hv : valid p with
  | false => rfl
  | true =>
    simp only [if_true, readsTo_valid hv, List.map_eq_nil_iff]

theorem Equal_l (pa pb : List Int) (hp : pa.length = pb.length) : ∀ (l k : List Int) (m : Nat), l.length = k.length → (pa ++ l).length < 1048576 → l.length < m →
    slices_Equal_int_l1 (pa ++ l) (pb ++ k) m (pa.length : Int) = some (decide (l = k)) := by
  intro l
  induction l generalizing pa pb with
  | nil =>
    intro k m hk hs hm
    obtain ⟨m, rfl⟩ : ∃ k, m = k + 1 := ⟨m - 1, by omega⟩
    have : k = [] := List.eq_nil_of_length_eq_zero (by simpa using hk.symm)
    subst this
    simp [slices_Equal_int_l1, slices_Equal_int_l1_b, slices_Equal_int_j1]
  | cons x l ih =>
    intro k m hk hs hm
    obtain ⟨m, rfl⟩ : ∃ k, m = k + 1 := ⟨m - 1, by omega⟩
    cases k with
    | nil => simp at hk
    | cons y k =>
      simp at hk hs hm
      simp only [slices_Equal_int_l1, slices_Equal_int_l1_b]
      rw [if_pos (by simp; omega), idx_mid, show idx (pb ++ y :: k) (pa.length : Int) = some y by rw [hp, idx_mid]]
      simp only [Option.bind_some]
      by_cases hb : x = y
      · subst hb
        have h := ih (pa ++ [x]) (pb ++ [x]) (by simp [hp]) k m hk (by simp; omega) (by omega)
        rw [if_neg (by simp), w64_id (by omega) (by omega)]
        simpa using h
      · rw [if_pos (by simpa using hb)]
        simp [hb]
theorem Equal_eq {n : Nat} (a b : List Int) (hs : a.length < 1048576) (hn : a.length < n) : slices_Equal_int n a b = some (decide (a = b)) := by
  unfold slices_Equal_int
  by_cases h : a.length = b.length
  · rw [if_neg (by simp [h])]
    exact Equal_l [] [] rfl a b n h (by simpa using hs) hn
  · rw [if_pos (by simp; omega)]
    have : a ≠ b := fun e => h (by rw [e])
    simp [this]

/-- The first of each. -/
def firsts {α : Type} [DecidableEq α] : List α → List α → List α
  | out, [] => out
  | out, x :: l => if x ∈ out then firsts out l else firsts (out ++ [x]) l
theorem firsts_mem {α : Type} [DecidableEq α] : ∀ (l out : List α) (x : α), x ∈ firsts out l ↔ x ∈ out ∨ x ∈ l
  | [], out, x => by simp [firsts]
  | y :: l, out, x => by
    simp only [firsts]
    split
    · rw [firsts_mem l out x, List.mem_cons]
      constructor
      · rintro (h | h)
        · exact .inl h
        · exact .inr (.inr h)
      · rintro (h | rfl | h)
        · exact .inl h
        · exact .inl (by assumption)
        · exact .inr h
    · rw [firsts_mem l _ x]
      simp [or_assoc]
theorem cl_len (p : Pulse) : ∀ (l : List Int) (y g h : Int) (out q : List Int), cl p y g h out l = some q → q.length ≤ out.length + l.length + 1
  | [], y, g, h, out, q, e => by
    simp only [cl] at e
    split at e
    · cases e; simp
    · cases e
  | x :: l, y, g, h, out, q, e => by
    simp only [cl] at e
    repeat' split at e
    all_goals first | (cases e; done) | (have := cl_len p l _ _ _ _ _ e; simp at this ⊢; omega)
theorem clean_len (p : Pulse) (l q : List Int) (e : clean p l = some q) : q.length ≤ l.length := by
  cases l with
  | nil => simp [clean] at e; simp [← e]
  | cons x l => have := cl_len p l _ _ _ _ _ e; simpa using this
theorem listOf_len (p : Pulse) (is : List Nat) : (listOf p is).length ≤ p.Times.length := by
  unfold listOf
  cases h : rd p is with
  | none => simp
  | some l =>
    have h1 := clean_len p _ _ h
    have h2 := less_len (fun j => is.contains j) p.Times 0
    simp; omega
theorem IndexL (aF : List Int → Unit → Option (Bool × Unit)) (f : List Int → Bool) : ∀ (l pre : List (List Int)) (m : Nat), (∀ x, x ∈ l → aF x () = some (f x, ())) → (pre ++ l).length < 1048576 → l.length < m →
    ∃ r, slices_IndexFunc_Lint_l1 (pre ++ l) aF m (pre.length : Int) () = some (r, ()) ∧ decide (r ≥ 0) = l.any f := by
  intro l
  induction l with
  | nil =>
    intro pre m hf hs hm
    obtain ⟨m, rfl⟩ : ∃ k, m = k + 1 := ⟨m - 1, by omega⟩
    exact ⟨-1, by simp [slices_IndexFunc_Lint_l1, slices_IndexFunc_Lint_l1_b, slices_IndexFunc_Lint_j1], by simp⟩
  | cons c l ih =>
    intro pre m hf hs hm
    obtain ⟨m, rfl⟩ : ∃ k, m = k + 1 := ⟨m - 1, by omega⟩
    obtain ⟨r, h1, h2⟩ := ih (pre ++ [c]) m (fun x hx => hf x (List.mem_cons_of_mem _ hx)) (by simpa using hs) (by simp at hm; omega)
    rw [show (((pre ++ [c]).length : Nat) : Int) = (pre.length : Int) + 1 by simp, show pre ++ [c] ++ l = pre ++ c :: l by simp] at h1
    simp at hs hm
    simp only [slices_IndexFunc_Lint_l1, slices_IndexFunc_Lint_l1_b]
    rw [if_pos (by simp <;> omega), idx_mid]
    simp only [Option.bind_some, hf c (by simp)]
    by_cases hb : f c = true
    · exact ⟨pre.length, by simp [hb], by simp [hb]⟩
    · refine ⟨r, ?_, by rw [h2]; simp [hb]⟩
      rw [w64_id (by omega) (by omega), if_neg hb]
      exact h1
theorem ContainsL {n : Nat} (r : Reading_) (L : List (List Int)) (hl : ∀ x, x ∈ L → x.length < 1000) (hs : L.length < 1048576) (hn : L.length < n) (hn' : 1000 ≤ n) :
    slices_ContainsFunc_Lint n (fun (x0 : List Int) (_ : Unit) => (pulses_lists_c1 n x0 r).map fun y => (y, ())) L () = some (decide (r.list ∈ L), ()) := by
  obtain ⟨v, h1, h2⟩ := IndexL (fun (x0 : List Int) (_ : Unit) => (pulses_lists_c1 n x0 r).map fun y => (y, ())) (fun x => decide (x = r.list)) L [] n (fun x hx => by
    have := hl x hx
    simp [pulses_lists_c1, Equal_eq x r.list (by omega) (show x.length < n by omega)]) (by simpa using hs) hn
  have h1 : slices_IndexFunc_Lint n _ L () = some (v, ()) := h1
  simp only [slices_ContainsFunc_Lint, h1, Option.bind_some, h2]
  congr 2
  by_cases hm : r.list ∈ L
  · simp only [hm, decide_true, List.any_eq_true]
    exact ⟨_, hm, by simp⟩
  · simp only [hm, decide_false, List.any_eq_false]
    intro x hx
    simp only [decide_eq_true_eq]
    intro e
    exact hm (e ▸ hx)
theorem lists_eq {n : Nat} (L : List Reading_) (hl : ∀ x, x ∈ L → x.list.length < 1000) (hs : L.length < 1000000) (hn : L.length < n) (hn' : 1000 ≤ n) :
    pulses_lists n L = some (firsts [] (L.map (·.list))) := by
  have key : ∀ (l pre : List Reading_) (m : Nat) (out : List (List Int)), L = pre ++ l → l.length < m → (∀ x, x ∈ out → x.length < 1000) → out.length ≤ pre.length →
      pulses_lists_l1 n L m out (pre.length : Int) = some (firsts out (l.map (·.list))) := by
    intro l
    induction l with
    | nil =>
      intro pre m out he hm ho hlen
      obtain ⟨m, rfl⟩ : ∃ k, m = k + 1 := ⟨m - 1, by omega⟩
      simp only [pulses_lists_l1, pulses_lists_l1_b, pulses_lists_j1]
      rw [if_neg (by simp [he])]
      simp [firsts]
    | cons x l ih =>
      intro pre m out he hm ho hlen
      simp at hm
      have hl' : L.length = pre.length + (l.length + 1) := by simp [he]
      obtain ⟨m, rfl⟩ : ∃ k, m = k + 1 := ⟨m - 1, by omega⟩
      have hx := hl x (by simp [he])
      have hc : (((pre ++ [x]).length : Nat) : Int) = (pre.length : Int) + 1 := by simp
      simp only [pulses_lists_l1, pulses_lists_l1_b]
      rw [if_pos (by simp; omega), show idx L (pre.length : Int) = some x by rw [he, idx_mid]]
      simp only [Option.bind_some]
      rw [ContainsL x out ho (by omega) (by omega) hn']
      simp only [Option.bind_some, List.map_cons, firsts]
      by_cases hmem : x.list ∈ out
      · simp only [hmem, decide_true, Bool.not_true, Bool.false_eq_true, if_false, if_true, pulses_lists_j2]
        rw [w64_id (by omega) (by omega)]
        have h := ih (pre ++ [x]) m out (by simp [he]) (by omega) ho (by simp; omega)
        rw [hc] at h
        exact h
      · simp only [hmem, decide_false, Bool.not_false, if_true, if_false, pulses_lists_j2]
        rw [app_ok (by simp; omega)]
        simp only [Option.bind_some]
        rw [w64_id (by omega) (by omega)]
        have h := ih (pre ++ [x]) m (out ++ [x.list]) (by simp [he]) (by omega) (fun y hy => by
          rcases List.mem_append.1 hy with hy | hy
          · exact ho y hy
          · rw [List.mem_singleton] at hy; subst hy; exact hx) (by simp; omega)
        rw [hc] at h
        exact h
  exact key L [] n [] rfl hn (by simp) (by simp)

theorem good_len {p : Pulse} (hk : p.Sparks.toNat ≤ 3) (hl : p.Times.length ≤ 14) : (goodP p p.Sparks.toNat).length ≤ 13500 := by
  rw [← (good_perm p p.Sparks.toNat).length_eq]
  have h1 := sub_len14 (k := p.Sparks.toNat) (ps := spots p) hk (by simp [spots]; exact hl)
  have h2 : (goodR p p.Sparks.toNat).length ≤ (sub p.Sparks.toNat (spots p)).length := List.length_filter_le _ _
  omega
theorem openR_len {p : Pulse} (hf : valid p = true → p.Times.length ≤ 14) : (openR p).1.length ≤ 13500 := by
  unfold openR
  cases hv : valid p with
  | false => simp
  | true =>
    obtain ⟨v1, v2, v3, v4, v5, v6, v7, v8, v9⟩ := valid_iff hv
    simp only [if_true]
    split
    · simp
    · simp only [List.length_map]
      exact good_len (by omega) (hf hv)
theorem openR_list {p : Pulse} (hs : p.Times.length ≤ 40) : ∀ x, x ∈ (openR p).1 → x.list.length < 1000 := by
  intro x hx
  unfold openR at hx
  split at hx
  · split at hx
    · simp at hx
    · obtain ⟨is, _, rfl⟩ := List.mem_map.1 hx
      have := listOf_len p is
      simp only
      omega
  · simp at hx
theorem open_none {p : Pulse} (h : (openR p).2 = 0) : (openR p).1 ≠ [] := by
  unfold openR at h ⊢
  split at h
  · split at h
    · cases h
    · rename_i hv hg
      rw [if_pos hv, if_neg hg]
      simpa using hg
  · cases h
/-- The one list of all, or the error. -/
def oneR (L : List (List Int)) : List Int × Int := if 1 < (firsts [] L).length then ([], 2) else ((firsts [] L).headD [], 0)
theorem one_all (a : List Int) : ∀ l : List (List Int), oneR (a :: l) = if l.all (fun x => decide (x = a)) = true then (a, 0) else ([], 2) := by
  intro l
  unfold oneR
  have e : firsts [] (a :: l) = firsts [a] l := by simp [firsts]
  rw [e]
  by_cases h : l.all (fun x => decide (x = a)) = true
  · have : firsts [a] l = [a] := by
      clear e
      induction l with
      | nil => rfl
      | cons x l ih =>
        simp only [List.all_cons, Bool.and_eq_true, decide_eq_true_eq] at h
        rw [firsts, if_pos (by rw [h.1]; simp)]
        exact ih (by simpa using h.2)
    rw [if_pos h, this]
    rfl
  · rw [if_neg h]
    have : ∃ x, x ∈ l ∧ x ≠ a := by
      simp only [List.all_eq_true, decide_eq_true_eq] at h
      exact Classical.byContradiction fun hc => h fun x hx => Classical.byContradiction fun hne => hc ⟨x, hx, hne⟩
    obtain ⟨x, hx, hne⟩ := this
    have m1 : a ∈ firsts [a] l := (firsts_mem l [a] a).2 (.inl (by simp))
    have m2 : x ∈ firsts [a] l := (firsts_mem l [a] x).2 (.inr hx)
    rw [if_pos ?_]
    generalize firsts [a] l = f at m1 m2
    match f with
    | [] => simp at m1
    | [y] =>
      rw [List.mem_singleton] at m1 m2
      exact absurd (m2.trans m1.symm) hne
    | _ :: _ :: _ => simp
def readR (p : Pulse) : List Int × Int := if (openR p).2 ≠ 0 then ([], (openR p).2) else oneR ((openR p).1.map (·.list))
theorem firsts_ne {L : List (List Int)} (h : L ≠ []) : firsts [] L ≠ [] := by
  cases L with
  | nil => exact absurd rfl h
  | cons a l =>
    have : a ∈ firsts [] (a :: l) := (firsts_mem _ _ a).2 (.inr (by simp))
    intro e
    rw [e] at this
    simp at this
theorem one_eq {n : Nat} (L : List Reading_) (hne : L ≠ []) (hl : ∀ x, x ∈ L → x.list.length < 1000) (hs : L.length < 1000000) (hn : L.length < n) (hn' : 1000 ≤ n) : pulses_one n L = some (oneR (L.map (·.list))) := by
  unfold pulses_one oneR
  rw [lists_eq L hl hs hn hn']
  simp only [Option.bind_some]
  by_cases h1 : 1 < (firsts [] (L.map (·.list))).length
  · rw [if_pos (by simp; omega), if_pos h1]
  · rw [if_neg (by simp; omega), if_neg h1]
    have := firsts_ne (L := L.map (·.list)) (by simpa using hne)
    generalize firsts [] (L.map (·.list)) = f at this
    cases f with
    | nil => exact absurd rfl this
    | cons a l => rfl
theorem Read_eq {n : Nat} (p : Pulse) (hs : p.Times.length ≤ 40) (hf : valid p = true → p.Times.length ≤ 14) (hn : 15000 ≤ n) : pulses_Read n p = some (readR p) := by
  obtain ⟨s'', h⟩ := open_any (n := n) p (by omega) (by omega)
  have hl := openR_len hf
  unfold pulses_Read readR
  rw [h]
  simp only [Option.bind_some]
  by_cases h0 : (openR p).2 = 0
  · rw [if_neg (by simp [h0]), if_neg (by simp [h0]), one_eq _ (open_none h0) (openR_list hs) (by omega) (by omega) (by omega)]
    rfl
  · rw [if_pos (by simp [h0]), if_pos h0]

/-- Is there a reading with so many sparks. -/
def hasK (p : Pulse) (k : Nat) : Bool := (cmb k (spots p)).any fun is => (rd p is).isSome
def fewR (p : Pulse) : Int × Int :=
  if valid p = true then (if hasK p 0 = true then (0, 0) else if hasK p 1 = true then (1, 0) else if hasK p 2 = true then (2, 0) else if hasK p 3 = true then (3, 0) else (0, 3)) else (0, 130)
theorem few_all (p : Pulse) (v5 : Int) : ∀ (L : List (List Nat)) (s : Int), yieldAll (fun x s => readF p (pulses_Fewest_r2 v5) x.toNat s) (L.map fun is => ((bits 0 is : Nat) : Int)) (s, false) =
    some (if (L.any fun is => (rd p is).isSome) = true then (false, (v5, true)) else (true, (s, false)))
  | [], s => rfl
  | is :: L, s => by
    have e : readF p (pulses_Fewest_r2 v5) (bits 0 is) (s, false) = some (if (rd p is).isSome = true then (false, (v5, true)) else (true, (s, false))) := by
      unfold readF
      rw [rd_bits]
      cases rd p is with
      | none => rfl
      | some l => rfl
    have ih := few_all p v5 L s
    simp only [List.map_cons, yieldAll, Int.toNat_natCast, List.any_cons]
    rw [e]
    by_cases h : (rd p is).isSome = true
    · simp [h]
    · have h' : (rd p is).isSome = false := by simpa using h
      simp only [h', Bool.false_eq_true, if_false, Option.bind_some, if_true, Bool.false_or]
      exact ih
theorem Fewest_eq {n : Nat} (p : Pulse) (hs : p.Times.length ≤ 40) (hn : 1200 ≤ n) : pulses_Fewest n p = some (fewR p) := by
  unfold pulses_Fewest fewR
  rw [Check_eq p (by omega) (by omega) (by omega)]
  simp only [Option.bind_some]
  cases hv : valid p with
  | false => simp
  | true =>
    simp only [cond_true, bne_self_eq_false, Bool.false_eq_true, if_false, if_true]
    have step : ∀ (k : Nat) (s : Int), k ≤ 3 → pulses_train_readings_c1 n (pulses_Fewest_r2 (k : Int)) (⟨p⟩ : Train_) (k : Int) (s, false) = some ((), if hasK p k = true then ((k : Int), true) else (s, false)) := by
      intro k s hk
      rw [readings_eq p hv (by omega) _ k (by omega) (s, false)]
      unfold masks
      rw [few_all p (k : Int) _ s]
      unfold hasK spots
      simp only [Option.bind_some]
      split <;> rfl
    obtain ⟨m, hm⟩ : ∃ m, n = m + 5 := ⟨n - 5, by omega⟩
    have s0 : pulses_train_readings_c1 n (pulses_Fewest_r2 0) (⟨p⟩ : Train_) 0 ((0 : Int), false) = some ((), if hasK p 0 = true then ((0 : Int), true) else ((0 : Int), false)) := step 0 0 (by omega)
    have s1 : pulses_train_readings_c1 n (pulses_Fewest_r2 1) (⟨p⟩ : Train_) 1 ((0 : Int), false) = some ((), if hasK p 1 = true then ((1 : Int), true) else ((0 : Int), false)) := step 1 0 (by omega)
    have s2 : pulses_train_readings_c1 n (pulses_Fewest_r2 2) (⟨p⟩ : Train_) 2 ((0 : Int), false) = some ((), if hasK p 2 = true then ((2 : Int), true) else ((0 : Int), false)) := step 2 0 (by omega)
    have s3 : pulses_train_readings_c1 n (pulses_Fewest_r2 3) (⟨p⟩ : Train_) 3 ((0 : Int), false) = some ((), if hasK p 3 = true then ((3 : Int), true) else ((0 : Int), false)) := step 3 0 (by omega)
    have hrun : pulses_Fewest_l1 n p (m + 5) 0 0 = some (if hasK p 0 = true then ((0 : Int), (0 : Int)) else if hasK p 1 = true then (1, 0) else if hasK p 2 = true then (2, 0) else if hasK p 3 = true then (3, 0) else (0, 3)) := by
      simp only [pulses_Fewest_l1, pulses_Fewest_l1_b, pulses_Fewest_j1]
      rw [if_pos (by decide), s0]
      simp only [Option.bind_some]
      cases hasK p 0 with
      | true => simp
      | false =>
        simp only [Bool.false_eq_true, if_false]
        rw [show w64 (0 + 1) = 1 by decide, if_pos (by decide), s1]
        simp only [Option.bind_some]
        cases hasK p 1 with
        | true => simp
        | false =>
          simp only [Bool.false_eq_true, if_false]
          rw [show w64 (1 + 1) = 2 by decide, if_pos (by decide), s2]
          simp only [Option.bind_some]
          cases hasK p 2 with
          | true => simp
          | false =>
            simp only [Bool.false_eq_true, if_false]
            rw [show w64 (2 + 1) = 3 by decide, if_pos (by decide), s3]
            simp only [Option.bind_some]
            cases hasK p 3 with
            | true => simp
            | false =>
              simp only [Bool.false_eq_true, if_false]
              rw [show w64 (3 + 1) = 4 by decide, if_neg (by decide)]
    rw [show pulses_Fewest_l1 n p n 0 0 = pulses_Fewest_l1 n p (m + 5) 0 0 from congrArg (fun k => pulses_Fewest_l1 n p k 0 0) hm, hrun]
theorem cmb_size : ∀ (k : Nat) (ps is : List Nat), is ∈ cmb k ps → is.length = k
  | 0, ps, is, h => by simp [cmb] at h; simp [h]
  | k + 1, [], is, h => by simp [cmb] at h
  | k + 1, i :: ps, is, h => by
    simp only [cmb, List.mem_append, List.mem_map] at h
    rcases h with ⟨is', h1, rfl⟩ | h
    · simp [cmb_size k ps is' h1]
    · exact cmb_size (k + 1) ps is h
theorem hasK_iff {p : Pulse} {k : Nat} : hasK p k = true ↔ ∃ is, is.length = k ∧ is ∈ cmb is.length (spots p) ∧ (rd p is).isSome = true := by
  unfold hasK
  rw [List.any_eq_true]
  constructor
  · rintro ⟨is, h1, h2⟩
    have := cmb_size k _ is h1
    exact ⟨is, this, by rw [this]; exact h1, h2⟩
  · rintro ⟨is, h1, h2, h3⟩
    exact ⟨is, by rw [← h1]; exact h2, h3⟩
theorem Far_eq {n : Nat} (p : Pulse) (hn : 1000 ≤ n) : law13_Far n p = some (decide (p.Times.length > 40) || (valid p && decide (p.Times.length > 14))) := by
  unfold law13_Far law13_Far_j1
  by_cases h : p.Times.length > 40
  · rw [if_pos (by simp; omega)]
    simp [h]
  · rw [if_neg (by simp; omega), rCheck_eq p (by omega) (by omega)]
    simp only [Option.bind_some, h, decide_false, Bool.false_or]
    cases valid p with
    | false => simp
    | true => simp <;> omega

/-- The least and the greatest. -/
def lo (l : List Int) : Int := l.foldl min 24
def hi (l : List Int) : Int := l.foldl max 0

theorem spots_nodup (p : Pulse) : (spots p).Nodup := List.nodup_range'
/-- In how many readings a pulse is a spark. -/
def oft (p : Pulse) (i : Nat) : Nat := (goodP p p.Sparks.toNat).countP fun is => is.contains i
def realR (p : Pulse) : List Int × Int := if (openR p).2 ≠ 0 then ([], (openR p).2) else (ints' ((spots p).filter fun i => oft p i == 0), 0)

theorem cmb_up : ∀ (k i : Nat) (ps is : List Nat), is ∈ cmb k ps → is ∈ cmb k (i :: ps)
  | 0, _, _, _, h => by simpa [cmb] using h
  | k + 1, i, ps, is, h => by simp only [cmb, List.mem_append]; exact .inr h
theorem cmb_filter : ∀ (k : Nat) (ps is : List Nat), ps.Nodup → is ∈ cmb k ps → ps.filter (fun j => is.contains j) = is
  | 0, ps, is, _, h => by simp [cmb] at h; subst h; simp
  | k + 1, [], is, _, h => by simp [cmb] at h
  | k + 1, i :: ps, is, hn, h => by
    obtain ⟨h1, h2⟩ := List.nodup_cons.1 hn
    simp only [cmb, List.mem_append, List.mem_map] at h
    rcases h with ⟨is', h3, rfl⟩ | h
    · rw [List.filter_cons, if_pos (by simp)]
      congr 1
      refine Eq.trans (List.filter_congr fun j hj => ?_) (cmb_filter k ps is' h2 h3)
      have : (j == i) = false := beq_eq_false_iff_ne.2 fun e => h1 (e ▸ hj)
      rw [List.contains_cons, this, Bool.false_or]
    · rw [List.filter_cons, if_neg ?_]
      · exact cmb_filter (k + 1) ps is h2 h
      · intro hc
        exact h1 (cmb_mem (k + 1) ps is h i (by simpa using hc))
theorem less_sub (f : Nat → Bool) : ∀ (l : List Int) (a : Nat), (less f a l).Sublist l
  | [], _ => .slnil
  | t :: l, a => by
    simp only [less]
    split
    · exact (less_sub f l (a + 1)).cons t
    · exact (less_sub f l (a + 1)).cons₂ t
theorem less_count (f : Nat → Bool) : ∀ (l : List Int) (a : Nat), (less f a l).length + ((List.range' a l.length).filter f).length = l.length
  | [], _ => rfl
  | t :: l, a => by
    have h := less_count f l (a + 1)
    simp only [less, List.length_cons, List.range'_succ, List.filter_cons]
    cases f a with
    | true => simp; omega
    | false => simp; omega
theorem less_congr_from {f g : Nat → Bool} : ∀ (l : List Int) (i : Nat), (∀ j, i ≤ j → f j = g j) → less f i l = less g i l
  | [], _, _ => rfl
  | t :: l, i, h => by simp only [less, h i (Nat.le_refl _), less_congr_from l (i + 1) fun j hj => h j (by omega)]
theorem sub_less {q l : List Int} (h : q.Sublist l) : ∀ a : Nat, ∃ is, is ∈ cmb (l.length - q.length) (List.range' a l.length) ∧ less (fun j => is.contains j) a l = q := by
  induction h with
  | slnil => intro a; exact ⟨[], by simp [cmb], rfl⟩
  | @cons q l x h ih =>
    intro a
    obtain ⟨is, h1, h2⟩ := ih (a + 1)
    have hle := h.length_le
    refine ⟨a :: is, ?_, ?_⟩
    · rw [List.length_cons, show l.length + 1 - q.length = (l.length - q.length) + 1 by omega, List.range'_succ]
      simp only [cmb, List.mem_append, List.mem_map]
      exact .inl ⟨is, h1, rfl⟩
    · rw [less, if_pos (by simp), less_congr_from (g := fun j => is.contains j) l (a + 1) fun j hj => by
        have : (j == a) = false := beq_eq_false_iff_ne.2 (by omega)
        rw [List.contains_cons, this, Bool.false_or]]
      exact h2
  | @cons_cons q l x h ih =>
    intro a
    obtain ⟨is, h1, h2⟩ := ih (a + 1)
    have hle := h.length_le
    refine ⟨is, ?_, ?_⟩
    · rw [List.length_cons, List.length_cons, show l.length + 1 - (q.length + 1) = l.length - q.length by omega, List.range'_succ]
      exact cmb_up _ _ _ _ h1
    · rw [less, if_neg ?_, h2]
      intro hc
      have := cmb_mem _ _ is h1 a (by simpa using hc)
      simp at this
      omega
/-- There is a reading with so many sparks just if the rest of so many pulses less can be clean. -/
theorem hasK_sub {p : Pulse} {k : Nat} : hasK p k = true ↔ ∃ q, q.Sublist p.Times ∧ q.length + k = p.Times.length ∧ (clean p q).isSome = true := by
  rw [hasK_iff]
  constructor
  · rintro ⟨is, h1, h2, h3⟩
    refine ⟨less (fun j => is.contains j) 0 p.Times, less_sub _ _ _, ?_, h3⟩
    have h4 := less_count (fun j => is.contains j) p.Times 0
    have h5 := cmb_filter _ _ _ (spots_nodup p) h2
    rw [show List.range' 0 p.Times.length = spots p from rfl, h5] at h4
    omega
  · rintro ⟨q, h1, h2, h3⟩
    obtain ⟨is, h4, h5⟩ := sub_less h1 0
    have h6 := cmb_size _ _ _ h4
    refine ⟨is, by omega, ?_, ?_⟩
    · rw [h6]; exact h4
    · unfold rd; rw [h5]; exact h3
theorem few_cases {p : Pulse} (hv : valid p = true) : (∃ k : Nat, k ≤ 3 ∧ fewR p = ((k : Int), 0) ∧ hasK p k = true ∧ ∀ j, j < k → hasK p j = false) ∨ (fewR p = (0, 3) ∧ ∀ j, j ≤ 3 → hasK p j = false) := by
  unfold fewR
  rw [if_pos hv]
  cases h0 : hasK p 0 with
  | true => exact .inl ⟨0, by omega, by simp, h0, fun j hj => by omega⟩
  | false =>
    cases h1 : hasK p 1 with
    | true => exact .inl ⟨1, by omega, by simp, h1, fun j hj => by rw [show j = 0 by omega]; exact h0⟩
    | false =>
      cases h2 : hasK p 2 with
      | true => exact .inl ⟨2, by omega, by simp, h2, fun j hj => by
          rcases (show j = 0 ∨ j = 1 by omega) with e | e <;> rw [e] <;> assumption⟩
      | false =>
        cases h3 : hasK p 3 with
        | true => exact .inl ⟨3, by omega, by simp, h3, fun j hj => by
            rcases (show j = 0 ∨ j = 1 ∨ j = 2 by omega) with e | e | e <;> rw [e] <;> assumption⟩
        | false => exact .inr ⟨by simp, fun j hj => by
            rcases (show j = 0 ∨ j = 1 ∨ j = 2 ∨ j = 3 by omega) with e | e | e | e <;> rw [e] <;> assumption⟩
/-- Trains that differ in nothing but the number of sparks, and the times. -/
def like (p q : Pulse) : Prop := p.Letters = q.Letters ∧ p.Numbers = q.Numbers ∧ p.Pitch = q.Pitch ∧ p.Slack = q.Slack ∧ p.Gap = q.Gap ∧ p.Pause = q.Pause
theorem cl_like {p q : Pulse} (h : like p q) : ∀ (l : List Int) (y g t : Int) (out : List Int), cl p y g t out l = cl q y g t out l := by
  obtain ⟨p1, p2, p3, p4, p5, p6, p7, p8⟩ := p
  obtain ⟨q1, q2, q3, q4, q5, q6, q7, q8⟩ := q
  obtain ⟨h1, h2, h3, h4, h5, h6⟩ := h
  simp only at h1 h2 h3 h4 h5 h6
  subst h1 h2 h3 h4 h5 h6
  intro l
  induction l with
  | nil => intro y g t out; rfl
  | cons x l ih =>
    intro y g t out
    simp only [cl, good, selOf, sameD, ih]
    rfl
theorem clean_like {p q : Pulse} (h : like p q) (l : List Int) : clean p l = clean q l := by
  cases l with
  | nil => rfl
  | cons x l => exact cl_like h l _ _ _ _
def readyB (p : Pulse) : Bool := !(decide (p.Times.length > 40) || (valid p && decide (p.Times.length > 14))) && valid p
theorem ready_eq {n : Nat} (p : Pulse) (hn : 1000 ≤ n) : law13_ready n p = some (readyB p) := by
  unfold law13_ready law13_ready_j1
  rw [Far_eq p hn]
  simp only [Option.bind_some]
  unfold readyB
  cases hfar : (decide (p.Times.length > 40) || (valid p && decide (p.Times.length > 14))) with
  | true => rfl
  | false =>
    simp only [Bool.not_false, if_true]
    simp only [Bool.or_eq_false_iff, decide_eq_false_iff_not] at hfar
    rw [rCheck_eq p (by omega) (by omega)]
    cases valid p <;> rfl
theorem ready_iff {p : Pulse} : readyB p = true ↔ valid p = true ∧ p.Times.length ≤ 14 := by
  unfold readyB
  cases valid p <;> simp <;> omega
theorem isKnown_eq (e : Int) : law13_isKnown e = some (e == 0 || e == 3) := by
  unfold law13_isKnown law13_isKnown_j1
  cases e == 0 <;> simp
theorem openR_val {p : Pulse} (hv : valid p = true) : (openR p).2 = (if goodP p p.Sparks.toNat = [] then 3 else 0) ∧ (openR p).1.length = (goodP p p.Sparks.toNat).length := by
  unfold openR
  rw [if_pos hv]
  split
  · rename_i h; simp [h]
  · simp



theorem less_none : ∀ (l : List Int) (a : Nat), less (fun j => ([] : List Nat).contains j) a l = l
  | [], _ => rfl
  | t :: l, a => by
    have := less_none l (a + 1)
    simp only [less]
    rw [if_neg (by simp), this]
/-- A clean train that allows for no spark has one reading. -/
theorem zero_good {o : Pulse} {l : List Int} (h0 : o.Sparks = 0) (hc : clean o o.Times = some l) : goodP o o.Sparks.toNat = [[]] ∧ listOf o [] = l := by
  have hr : rd o [] = some l := by unfold rd; rw [less_none, hc]
  constructor
  · rw [h0]
    unfold goodP cmbs
    simp [cmb, hr]
  · unfold listOf
    rw [hr]
    rfl
theorem zero_read {o : Pulse} {l : List Int} (hv : valid o = true) (h0 : o.Sparks = 0) (hc : clean o o.Times = some l) : readR o = (l, 0) ∧ (openR o).2 = 0 ∧ (openR o).1.length = 1 ∧ realR o = (ints' (spots o), 0) := by
  obtain ⟨h1, h2⟩ := zero_good h0 hc
  obtain ⟨o1, o2⟩ := openR_val hv
  rw [h1, if_neg (by simp)] at o1
  rw [h1] at o2
  refine ⟨?_, o1, o2, ?_⟩
  · unfold readR
    rw [if_neg (by simp [o1])]
    have : (openR o).1.map (·.list) = [l] := by
      unfold openR
      rw [if_pos hv, h1, if_neg (by simp)]
      simp [h2]
    rw [this, one_all]
    rfl
  · unfold realR
    rw [if_neg (by simp [o1])]
    congr 2
    refine List.filter_eq_self.2 fun i _ => ?_
    unfold oft
    rw [h1]
    rfl
theorem valid_times {p : Pulse} {k : Int} {q : List Int} (hv : valid p = true) (h0 : 0 ≤ k) (h3 : k ≤ 3) (hq : q.length ≤ 24) (hr : rise none q = true) : valid (⟨p.Letters, p.Numbers, p.Pitch, p.Slack, p.Gap, p.Pause, k, q⟩ : Pulse) = true := by
  simp only [valid, Bool.and_eq_true, inR_iff, decide_eq_true_eq] at hv ⊢
  obtain ⟨⟨⟨⟨⟨⟨⟨⟨h1, h2⟩, h3⟩, h4⟩, h5⟩, h6⟩, h7⟩, h8⟩, h9⟩ := hv
  exact ⟨⟨⟨⟨⟨⟨⟨⟨h1, h2⟩, h3⟩, h4⟩, h5⟩, h6⟩, by omega⟩, hq⟩, hr⟩



theorem cl_app (p : Pulse) : ∀ (l : List Int) (y g h : Int) (out q : List Int) (x : Int) (l2 : List Int), cl p y g h out l = some q → (∀ z, z ∈ y :: l → x - z ≥ p.Pause) → cl p y g h out (l ++ x :: l2) = cl p x 1 0 q l2
  | [], y, g, h, out, q, x, l2, e, hx => by
    simp only [List.nil_append, cl] at e ⊢
    rw [if_pos (hx y (by simp))]
    cases hg : good p g h with
    | false => rw [hg] at e; simp at e
    | true =>
      rw [hg] at e
      simp only [if_true, Option.some.injEq] at e ⊢
      rw [e]
  | t :: l, y, g, h, out, q, x, l2, e, hx => by
    simp only [List.cons_append, cl] at e ⊢
    have hx' : ∀ z, z ∈ t :: l → x - z ≥ p.Pause := fun z hz => hx z (List.mem_cons_of_mem _ hz)
    by_cases c1 : t - y ≥ p.Pause
    · rw [if_pos c1] at e ⊢
      cases hg : good p g h with
      | false => rw [hg] at e; simp at e
      | true =>
        rw [hg] at e
        simp only [if_true] at e ⊢
        exact cl_app p l t 1 0 _ q x l2 e hx'
    · rw [if_neg c1] at e ⊢
      by_cases c2 : t - y ≥ p.Gap
      · rw [if_pos c2] at e ⊢
        by_cases c3 : h > 0
        · rw [if_pos c3] at e; cases e
        · rw [if_neg c3] at e ⊢
          exact cl_app p l t g 1 _ q x l2 e hx'
      · rw [if_neg c2] at e ⊢
        cases hsd : sameD p (t - y) with
        | false => rw [hsd] at e; simp at e
        | true =>
          rw [hsd] at e
          simp only [if_true] at e ⊢
          by_cases c3 : h > 0
          · rw [if_pos c3] at e ⊢
            exact cl_app p l t g (h + 1) _ q x l2 e hx'
          · rw [if_neg c3] at e ⊢
            exact cl_app p l t (g + 1) h _ q x l2 e hx'
theorem cl_pre (p : Pulse) : ∀ (l : List Int) (y g h : Int) (pre out : List Int), cl p y g h (pre ++ out) l = (cl p y g h out l).map (pre ++ ·)
  | [], y, g, h, pre, out => by
    simp only [cl]
    split <;> simp
  | t :: l, y, g, h, pre, out => by
    simp only [cl]
    split
    · split
      · rw [List.append_assoc]; exact cl_pre p l t 1 0 pre _
      · rfl
    · split
      · split
        · rfl
        · exact cl_pre p l t g 1 pre out
      · split
        · split
          · exact cl_pre p l t g (h + 1) pre out
          · exact cl_pre p l t (g + 1) h pre out
        · rfl
theorem clean_app (p : Pulse) (l k a b : List Int) (hl : clean p l = some a) (hk : clean p k = some b) (hlk : ∀ z, z ∈ l → ∀ x, x ∈ k → x - z ≥ p.Pause) : clean p (l ++ k) = some (a ++ b) := by
  cases l with
  | nil => simp only [clean, Option.some.injEq] at hl; subst hl; simpa using hk
  | cons y l =>
    cases k with
    | nil => simp only [clean, Option.some.injEq] at hk; subst hk; simpa using hl
    | cons x k =>
      simp only [List.cons_append, clean] at hl hk ⊢
      rw [cl_app p l y 1 0 [] a x k hl fun z hz => hlk z hz x (by simp)]
      have := cl_pre p k x 1 0 a []
      rw [List.append_nil] at this
      rw [this, hk]
      rfl
/-- What is behind another train. -/
def after : Int → List Int → List Int
  | _, [] => []
  | t, x :: l => (t + x) :: after (t + x) l
theorem after_ge : ∀ (l : List Int) (t : Int), (∀ x, x ∈ l → 0 ≤ x) → ∀ z, z ∈ after t l → t ≤ z
  | [], t, _, z, hz => by simp [after] at hz
  | x :: l, t, h, z, hz => by
    have hx := h x (by simp)
    simp only [after, List.mem_cons] at hz
    rcases hz with rfl | hz
    · omega
    · have := after_ge l (t + x) (fun y hy => h y (by simp [hy])) z hz
      omega
theorem rise_le_last : ∀ (l : List Int) (prev : Option Int) (q : List Int) (y : Int), rise prev l = true → l = q ++ [y] → ∀ z, z ∈ l → z ≤ y := by
  intro l prev q y h e
  subst e
  have key : ∀ (q : List Int) (prev : Option Int), rise prev (q ++ [y]) = true → ∀ z, z ∈ q → z < y := by
    intro q
    induction q with
    | nil => intro prev _ z hz; simp at hz
    | cons x q ih =>
      intro prev h z hz
      simp only [List.cons_append, rise, Bool.and_eq_true] at h
      have h1 := ih (some x) h.2
      rcases List.mem_cons.1 hz with rfl | hz
      · cases q with
        | nil => simp only [List.nil_append, rise, Bool.and_eq_true, decide_eq_true_eq] at h; exact h.2.1.2
        | cons w q =>
          have h2 := h1 w (by simp)
          simp only [List.cons_append, rise, Bool.and_eq_true, decide_eq_true_eq] at h
          omega
      · exact h1 z hz
  intro z hz
  rcases List.mem_append.1 hz with hz | hz
  · have := key q prev h z hz; omega
  · simp at hz; omega
theorem Two_l {n : Nat} (p : Pulse) (a1 : List Int) (r4 r5 : Pulse) (hs : p.Times.length ≤ 40) (hw : law13_works n = some true) (ha : a1.length ≤ 40) :
    ∀ (l pre : List Int) (m : Nat) (t : Int) (v57 v58 : List Int), a1 = pre ++ l → l.length < m → 0 ≤ t → t ≤ 100000 * (pre.length + 2 : Nat) → v57.length ≤ pre.length + 40 → v58.length ≤ pre.length →
    law13_PulsesTwo_l1 n p a1 r4 r5 m t (pre.length : Int) v57 v58 = (if (∀ x, x ∈ l → 0 ≤ x ∧ x ≤ 99999) then law13_PulsesTwo_j3 n p r4 r5 (v57 ++ after t l) (v58 ++ after t l) else some true) := by
  intro l
  induction l with
  | nil =>
    intro pre m t v57 v58 he hm h0 h1 h7 h8
    obtain ⟨m, rfl⟩ : ∃ k, m = k + 1 := ⟨m - 1, by omega⟩
    simp only [law13_PulsesTwo_l1, law13_PulsesTwo_l1_b]
    rw [if_neg (by simp [he]), if_pos (by simp)]
    simp [after]
  | cons y l ih =>
    intro pre m t v57 v58 he hm h0 h1 h7 h8
    simp at hm
    have hl : a1.length = pre.length + (l.length + 1) := by simp [he]
    obtain ⟨m, rfl⟩ : ∃ k, m = k + 1 := ⟨m - 1, by omega⟩
    have hc : (((pre ++ [y]).length : Nat) : Int) = (pre.length : Int) + 1 := by simp
    have hi : idx a1 (pre.length : Int) = some y := by rw [he, idx_mid]
    simp only [law13_PulsesTwo_l1, law13_PulsesTwo_l1_b]
    rw [if_pos (by simp; omega), hi]
    simp only [Option.bind_some, law13_PulsesTwo_j10]
    by_cases y0 : y < 0
    · rw [if_pos (by simpa using y0), if_pos trivial, hw, if_neg (fun h => by have := h y (by simp); omega)]
      rfl
    rw [if_neg (by simpa using y0)]
    by_cases y1 : y > 99999
    · rw [if_pos (by simpa using y1), hw, if_neg (fun h => by have := h y (by simp); omega)]
      rfl
    rw [if_neg (by simpa using y1), hi]
    simp only [Option.bind_some]
    rw [w64_id (x := t + y) (by omega) (by omega), w64_id (x := (pre.length : Int) + 1) (by omega) (by omega), app_ok (by simp; omega)]
    simp only [Option.bind_some]
    rw [app_ok (by simp; omega)]
    simp only [Option.bind_some]
    have h := ih (pre ++ [y]) m (t + y) (v57 ++ [t + y]) (v58 ++ [t + y]) (by simp [he]) (by omega) (by omega) (by simp; omega) (by simp; omega) (by simp; omega)
    rw [hc] at h
    rw [h]
    have hb : (∀ x, x ∈ y :: l → 0 ≤ x ∧ x ≤ 99999) ↔ (∀ x, x ∈ l → 0 ≤ x ∧ x ≤ 99999) := by
      constructor
      · intro h x hx; exact h x (by simp [hx])
      · intro h x hx
        rcases List.mem_cons.1 hx with rfl | hx
        · omega
        · exact h x hx
    simp only [hb, after, List.append_assoc, List.singleton_append]
theorem zero_bad {o : Pulse} (hv : valid o = true) (h0 : o.Sparks = 0) (hc : clean o o.Times = none) : readR o = ([], 3) := by
  have hr : rd o [] = none := by unfold rd; rw [less_none, hc]
  have hg : goodP o o.Sparks.toNat = [] := by
    rw [h0]
    unfold goodP cmbs
    simp [cmb, hr]
  obtain ⟨o1, o2⟩ := openR_val hv
  rw [if_pos hg] at o1
  unfold readR
  rw [if_pos (by simp [o1]), o1]
theorem few_any {p : Pulse} (hv : valid p = true) : ∃ k e : Int, fewR p = (k, e) ∧ 0 ≤ k ∧ k ≤ 3 ∧ (e = 0 ∨ e = 3) ∧ (e = 0 → hasK p k.toNat = true) := by
  rcases few_cases hv with ⟨k, hk, h, h1, h2⟩ | ⟨h, h2⟩
  · exact ⟨k, 0, h, by omega, by omega, .inl rfl, fun _ => by simpa using h1⟩
  · exact ⟨0, 3, h, by omega, by omega, .inr rfl, fun e => by cases e⟩
theorem law_PulsesTwo (p : Pulse) (a1 : List Int) : law13_PulsesTwo 20000 p a1 = some true := by
  unfold law13_PulsesTwo
  have fin : law13_PulsesTwo_j1 20000 p a1 true = some true := by simp [law13_PulsesTwo_j1, works_eq]
  rw [ready_eq p (by omega)]
  simp only [Option.bind_some]
  cases hr : readyB p with
  | false => simpa using fin
  | true =>
    obtain ⟨hv, hl⟩ := ready_iff.1 hr
    have hval := valid_iff hv
    obtain ⟨v1, v2, v3, v4, v5, v6, v7, v8, v9⟩ := hval
    simp only [Bool.not_true, Bool.false_eq_true, if_false]
    by_cases b0 : (a1.length : Int) > 14
    · rw [show decide ((a1.length : Int) > 14) = true by simpa using b0]; exact fin
    rw [show decide ((a1.length : Int) > 14) = false by simpa using b0]
    simp only [law13_PulsesTwo_j1, Bool.false_eq_true, if_false]
    rw [Copy_eq p (by omega)]
    simp only [Option.bind_some]
    -- where the other train begins
    have start : ∃ t : Int, 0 ≤ t ∧ t ≤ 200000 ∧ (∀ z, z ∈ p.Times → t - z ≥ p.Pause) ∧ (if decide ((p.Times.length : Int) > 0) = true then
        Option.bind (idx p.Times (w64 ((p.Times.length : Int) - 1))) fun x70 => law13_PulsesTwo_j2 20000 p a1 p p (w64 (x70 + p.Pause))
      else law13_PulsesTwo_j2 20000 p a1 p p 0) = law13_PulsesTwo_j2 20000 p a1 p p t := by
      rcases nil_or_last p.Times with e | ⟨q, y, e⟩
      · exact ⟨0, by omega, by omega, by simp [e], by simp [e]⟩
      · have hy := rise_mem _ _ v9 y (by rw [e]; simp)
        have hi := idx_last q y [] (by rw [List.append_nil, ← e]; omega)
        rw [List.append_nil, ← e] at hi
        refine ⟨y + p.Pause, by omega, by omega, ?_, ?_⟩
        · intro z hz
          have := rise_le_last _ _ q y v9 e z hz
          omega
        · rw [if_pos (by simp [e]), hi]
          simp only [Option.bind_some]
          rw [w64_id (x := y + p.Pause) (by omega) (by omega)]
    obtain ⟨t, t0, t1, tz, ht⟩ := start
    rw [ht]
    unfold law13_PulsesTwo_j2
    have h := Two_l (n := 20000) p a1 p p (by omega) works_eq (by omega) a1 [] 20000 t p.Times [] rfl (by omega) (by omega) (by simpa using t1) (by omega) (by simp)
    rw [show law13_PulsesTwo_l1 20000 p a1 p p 20000 t 0 p.Times [] = _ from h]
    by_cases hall : ∀ x, x ∈ a1 → 0 ≤ x ∧ x ≤ 99999
    · rw [if_pos hall, List.nil_append]
      have hge := after_ge a1 t fun x hx => (hall x hx).1
      generalize after t a1 = T at hge
      have hgap : ∀ z, z ∈ p.Times → ∀ x, x ∈ T → x - z ≥ p.Pause := fun z hz x hx => by
        have := hge x hx
        have := tz z hz
        omega
      unfold law13_PulsesTwo_j3
      generalize ho : (⟨p.Letters, p.Numbers, p.Pitch, p.Slack, p.Gap, p.Pause, p.Sparks, T⟩ : Pulse) = o
      generalize hb : (⟨p.Letters, p.Numbers, p.Pitch, p.Slack, p.Gap, p.Pause, p.Sparks, p.Times ++ T⟩ : Pulse) = b
      have olike : like o p := by subst ho; exact ⟨rfl, rfl, rfl, rfl, rfl, rfl⟩
      have blike : like b p := by subst hb; exact ⟨rfl, rfl, rfl, rfl, rfl, rfl⟩
      have hot : o.Times = T := by subst ho; rfl
      have hbt : b.Times = p.Times ++ T := by subst hb; rfl
      rw [ready_eq o (by omega), ready_eq b (by omega)]
      simp only [Option.bind_some]
      have fin4 : law13_PulsesTwo_j4 20000 p p p (p.Times ++ T) T true = some true := by simp [law13_PulsesTwo_j4, works_eq]
      cases hq : readyB o with
      | false => simpa using fin4
      | true =>
        cases hqb : readyB b with
        | false => simpa using fin4
        | true =>
          obtain ⟨ov, ol⟩ := ready_iff.1 hq
          obtain ⟨bv, bl⟩ := ready_iff.1 hqb
          simp only [Bool.not_true, Bool.false_eq_true, if_false]
          unfold law13_PulsesTwo_j4
          simp only [Bool.false_eq_true, if_false]
          rw [ho, hb, Fewest_eq p (by omega) (by omega), Fewest_eq o (by omega) (by omega), Fewest_eq b (by omega) (by omega)]
          simp only [Option.bind_some, isKnown_eq]
          have tail : law13_PulsesTwo_j6 20000 p p p (p.Times ++ T) T false = some true := by
            unfold law13_PulsesTwo_j6
            simp only [Bool.false_eq_true, if_false]
            rw [Copy_eq p (by omega)]
            simp only [Option.bind_some]
            have hT : T.length ≤ 14 := by rw [← hot]; exact ol
            have hB : (p.Times ++ T).length ≤ 14 := by rw [← hbt]; exact bl
            obtain ⟨w1, w2, w3, w4, w5, w6, w7, w8, w9⟩ := valid_iff ov
            obtain ⟨x1, x2, x3, x4, x5, x6, x7, x8, x9⟩ := valid_iff bv
            rw [hot] at w9
            rw [hbt] at x9
            have zp := valid_times (k := 0) (q := p.Times) hv (by omega) (by omega) (by omega) v9
            have zo := valid_times (k := 0) (q := T) hv (by omega) (by omega) (by omega) w9
            have zb := valid_times (k := 0) (q := p.Times ++ T) hv (by omega) (by omega) (by omega) x9
            generalize hp0 : (⟨p.Letters, p.Numbers, p.Pitch, p.Slack, p.Gap, p.Pause, 0, p.Times⟩ : Pulse) = p0 at zp
            generalize ho0 : (⟨p.Letters, p.Numbers, p.Pitch, p.Slack, p.Gap, p.Pause, 0, T⟩ : Pulse) = o0 at zo
            generalize hb0 : (⟨p.Letters, p.Numbers, p.Pitch, p.Slack, p.Gap, p.Pause, 0, p.Times ++ T⟩ : Pulse) = b0 at zb
            have pt : p0.Times = p.Times := by subst hp0; rfl
            have ot : o0.Times = T := by subst ho0; rfl
            have bt : b0.Times = p.Times ++ T := by subst hb0; rfl
            have ps : p0.Sparks = 0 := by subst hp0; rfl
            have os : o0.Sparks = 0 := by subst ho0; rfl
            have bs : b0.Sparks = 0 := by subst hb0; rfl
            have pk : like p0 p := by subst hp0; exact ⟨rfl, rfl, rfl, rfl, rfl, rfl⟩
            have ok : like o0 p := by subst ho0; exact ⟨rfl, rfl, rfl, rfl, rfl, rfl⟩
            have bk : like b0 p := by subst hb0; exact ⟨rfl, rfl, rfl, rfl, rfl, rfl⟩
            rw [Read_eq p0 (by rw [pt]; omega) (fun _ => by rw [pt]; omega) (by omega), Read_eq o0 (by rw [ot]; omega) (fun _ => by rw [ot]; omega) (by omega), Read_eq b0 (by rw [bt]; omega) (fun _ => by rw [bt]; omega) (by omega)]
            simp only [Option.bind_some]
            have zr : ∀ {o : Pulse}, valid o = true → o.Sparks = 0 → like o p → readR o = match clean p o.Times with | some l => (l, 0) | none => ([], 3) := by
              intro o hv' h0 hk
              cases hc : clean p o.Times with
              | none => exact zero_bad hv' h0 (by rw [clean_like hk]; exact hc)
              | some l => exact (zero_read hv' h0 (by rw [clean_like hk]; exact hc)).1
            rw [zr zp ps pk, zr zo os ok, zr zb bs bk, pt, ot, bt]
            cases c1 : clean p p.Times with
            | none =>
              cases c2 : clean p T with
              | none => simp [law13_PulsesTwo_j7, isKnown_eq, works_eq, law13_PulsesTwo_j8]
              | some l => simp [law13_PulsesTwo_j7, isKnown_eq, works_eq, law13_PulsesTwo_j8]
            | some l =>
              cases c2 : clean p T with
              | none => simp [law13_PulsesTwo_j7, isKnown_eq, works_eq, law13_PulsesTwo_j8]
              | some k =>
                rw [clean_app p _ _ l k c1 c2 hgap]
                have l1 := clean_len _ _ _ c1
                have l2 := clean_len _ _ _ c2
                simp only [law13_PulsesTwo_j7, bne_self_eq_false, Bool.false_eq_true, if_false]
                try rw [if_pos (by simp)]
                rw [app_ok (by simp; omega)]
                simp only [Option.bind_some, List.nil_append]
                rw [app_ok (by omega)]
                simp only [Option.bind_some]
                rw [SameInts_self _ (by simp; omega) (by simp; omega)]
                simp [works_eq, law13_PulsesTwo_j9]
          have join : ∀ i j, hasK p i = true → hasK o j = true → hasK b (i + j) = true := by
            intro i j h1 h2
            obtain ⟨q1, a1, a2, a3⟩ := hasK_sub.1 h1
            obtain ⟨q2, b1, b2, b3⟩ := hasK_sub.1 h2
            rw [hot] at b1 b2
            rw [clean_like olike] at b3
            obtain ⟨l1, e1⟩ := Option.isSome_iff_exists.1 a3
            obtain ⟨l2, e2⟩ := Option.isSome_iff_exists.1 b3
            refine hasK_sub.2 ⟨q1 ++ q2, by rw [hbt]; exact a1.append b1, by rw [hbt]; simp; omega, ?_⟩
            rw [clean_like blike, clean_app p q1 q2 l1 l2 e1 e2 fun z hz x hx => hgap z (a1.subset hz) x (b1.subset hx)]
            rfl
          obtain ⟨i, ei, pfew, i0, i3, hei, pk⟩ := few_any hv
          obtain ⟨j, ej, ofew, j0, j3, hej, ok⟩ := few_any ov
          obtain ⟨m, em, bfew, m0, m3, hem, bk⟩ := few_any bv
          have known : ∀ e : Int, e = 0 ∨ e = 3 → (e == 0 || e == 3) = true := by
            intro e he
            rcases he with rfl | rfl <;> rfl
          rw [pfew, ofew, bfew]
          simp only
          rw [known ei hei, known ej hej, known em hem]
          simp only [Bool.not_true, Bool.false_eq_true, if_false]
          rw [if_neg (by simp; omega), show decide (max i j > 3) = false by simp; omega]
          simp only [law13_PulsesTwo_j5, Bool.false_eq_true, if_false]
          by_cases hi0 : ei = 0
          · rw [if_pos (by simpa using hi0)]
            by_cases hj0 : ej = 0
            · rw [if_pos (by simpa using hj0), w64_id (by omega) (by omega)]
              by_cases hij : i + j ≤ 3
              · rw [if_pos (by simpa using hij)]
                have hh := join i.toNat j.toNat (pk hi0) (ok hj0)
                rcases few_cases bv with ⟨k, hk, bf, b1, b2⟩ | ⟨bf, b2⟩
                · rw [bfew] at bf
                  obtain ⟨rfl, rfl⟩ := Prod.mk.inj bf
                  rw [if_neg (by simp)]
                  rw [show decide ((k : Int) > i + j) = false by
                    simp only [decide_eq_false_iff_not]
                    intro hc
                    have := b2 (i.toNat + j.toNat) (by omega)
                    rw [hh] at this
                    cases this]
                  exact tail
                · have := b2 (i.toNat + j.toNat) (by omega)
                  rw [hh] at this
                  cases this
              · rw [if_neg (by simpa using hij)]
                exact tail
            · rw [if_neg (by simpa using hj0)]
              exact tail
          · rw [if_neg (by simpa using hi0)]
            exact tail
    · rw [if_neg hall]
end Go.Law
