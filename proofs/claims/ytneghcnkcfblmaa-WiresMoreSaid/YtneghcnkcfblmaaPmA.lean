/-
  Plain laws.
  Conditions: none.
-/
import Derived.Test.YtneghcnkcfblmaaMd
import Derived.Test.YtneghcnkcfblmaaPlA
import Derived.Test.YtneghcnkcfblmaaAmSd
set_option linter.all false
namespace Go.Law
open Go Go.AM

theorem works_eq : law11_works 20000 = some true := by decide +kernel

/-- A loop over a list. -/
theorem loopL {α S R : Type} (F : Nat → Int → S → Option R) (xs : List α) (spec : List α → S → Option R) (hl : xs.length < 1048576) (h0 : ∀ m s, F (m + 1) (xs.length : Int) s = spec [] s)
    (hs : ∀ m (i : Nat) x l s, idx xs (i : Int) = some x → (i : Int) < (xs.length : Int) → i < 1048576 → xs.drop (i + 1) = l → (∀ s', F m (w64 ((i : Int) + 1)) s' = spec l s') → F (m + 1) (i : Int) s = spec (x :: l) s) :
    ∀ (l : List α) (i m : Nat) (s : S), i ≤ xs.length → xs.drop i = l → l.length < m → F m (i : Int) s = spec l s := by
  intro l
  induction l with
  | nil =>
    intro i m s hi hd hm
    obtain ⟨m, rfl⟩ : ∃ k, m = k + 1 := ⟨m - 1, by omega⟩
    have : i = xs.length := by have := List.drop_eq_nil_iff.1 hd; omega
    subst this
    exact h0 m s
  | cons x l ih =>
    intro i m s hi hd hm
    obtain ⟨m, rfl⟩ : ∃ k, m = k + 1 := ⟨m - 1, by omega⟩
    simp only [List.length_cons] at hm
    have hlt : i < xs.length := by
      rcases Nat.lt_or_ge i xs.length with h | h
      · exact h
      · rw [List.drop_eq_nil_of_le h] at hd; cases hd
    rw [List.drop_eq_getElem_cons hlt] at hd
    injection hd with h1 h2
    refine hs m i x l s (by rw [idx_nat hlt, h1]) (by omega) (by omega) h2 fun s' => ?_
    rw [w64_id (by omega) (by omega)]
    exact ih (i + 1) m s' (by omega) h2 (by omega)
theorem loopL0 {α S R : Type} {F : Nat → Int → S → Option R} {xs : List α} {spec : List α → S → Option R} (hl : xs.length < 1048576) {n : Nat} (hn : xs.length < n) (s : S) (h0 : ∀ m s, F (m + 1) (xs.length : Int) s = spec [] s)
    (hs : ∀ m (i : Nat) x l s, idx xs (i : Int) = some x → (i : Int) < (xs.length : Int) → i < 1048576 → xs.drop (i + 1) = l → (∀ s', F m (w64 ((i : Int) + 1)) s' = spec l s') → F (m + 1) (i : Int) s = spec (x :: l) s) :
    F n 0 s = spec xs s := loopL F xs spec hl h0 hs xs 0 n s (by omega) rfl hn
/-- The same, where something must stand. -/
theorem loopI {α S R : Type} (F : Nat → Int → S → Option R) (xs : List α) (spec : List α → S → Option R) (I : List α → S → Prop) (hl : xs.length < 1048576) (h0 : ∀ m s, I [] s → F (m + 1) (xs.length : Int) s = spec [] s)
    (hs : ∀ m (i : Nat) x l s, I (x :: l) s → idx xs (i : Int) = some x → (i : Int) < (xs.length : Int) → i < 1048576 → xs.drop (i + 1) = l → (∀ s', I l s' → F m (w64 ((i : Int) + 1)) s' = spec l s') → F (m + 1) (i : Int) s = spec (x :: l) s) :
    ∀ (l : List α) (i m : Nat) (s : S), i ≤ xs.length → xs.drop i = l → l.length < m → I l s → F m (i : Int) s = spec l s := by
  intro l
  induction l with
  | nil =>
    intro i m s hi hd hm hI
    obtain ⟨m, rfl⟩ : ∃ k, m = k + 1 := ⟨m - 1, by omega⟩
    have : i = xs.length := by have := List.drop_eq_nil_iff.1 hd; omega
    subst this
    exact h0 m s hI
  | cons x l ih =>
    intro i m s hi hd hm hI
    obtain ⟨m, rfl⟩ : ∃ k, m = k + 1 := ⟨m - 1, by omega⟩
    simp only [List.length_cons] at hm
    have hlt : i < xs.length := by
      rcases Nat.lt_or_ge i xs.length with h | h
      · exact h
      · rw [List.drop_eq_nil_of_le h] at hd; cases hd
    rw [List.drop_eq_getElem_cons hlt] at hd
    injection hd with h1 h2
    refine hs m i x l s hI (by rw [idx_nat hlt, h1]) (by omega) (by omega) h2 fun s' hI' => ?_
    rw [w64_id (by omega) (by omega)]
    exact ih (i + 1) m s' (by omega) h2 (by omega) hI'
theorem bnd_some {α β : Type} (a : α) (f : α → Option β) : Option.bind (some a) f = f a := rfl
theorem within_eq (a b c : Int) : wires_within a b c = some (inR a b c) := by
  unfold wires_within wires_within_j1 inR
  by_cases h : b ≤ a <;> simp [h]
theorem Within_eq (a b c : Int) : ref01_Within a b c = some (inR a b c) := by
  unfold ref01_Within ref01_Within_j1 inR
  by_cases h : b ≤ a <;> simp [h]
theorem rwithin_eq (a b c : Int) : ref11_within a b c = some (inR a b c) := by simp [ref11_within, Within_eq]
/-- Is that a button. -/
def okB (w : Wire) (a b : Int) : Bool := inR a 0 (w.Letters - 1) && inR b 0 (w.Numbers - 1)
def smallW (w : Wire) : Prop := (1 ≤ w.Letters ∧ w.Letters ≤ 5) ∧ (1 ≤ w.Numbers ∧ w.Numbers ≤ 5)
theorem isPress_eq {w : Wire} (h : smallW w) (a b : Int) : wires_isPress w a b = some (okB w a b) := by
  obtain ⟨h1, h2⟩ := h
  unfold wires_isPress wires_isPress_j1 okB
  rw [w64_id (by omega) (by omega), w64_id (by omega) (by omega)]
  simp only [within_eq, bnd_some]
  by_cases h : inR a 0 (w.Letters - 1) = true <;> simp [h]
theorem IsButton_eq {w : Wire} (h : smallW w) (a b : Int) : ref11_IsButton w a b = some (okB w a b) := by
  obtain ⟨h1, h2⟩ := h
  unfold ref11_IsButton ref11_IsButton_j1 okB
  rw [w64_id (by omega) (by omega), w64_id (by omega) (by omega)]
  simp only [rwithin_eq, bnd_some]
  by_cases h : inR a 0 (w.Letters - 1) = true <;> simp [h]
def okP (w : Wire) (p : WirePress) : Bool := okB w p.Letter p.Number && inR p.Got (-1) (w.Letters * w.Numbers - 1)
def okW (w : Wire) : Bool := inR w.Letters 1 5 && inR w.Numbers 1 5 && inR w.Faults 0 3 && decide (w.Presses.length ≤ 8) && w.Presses.all (okP w)
theorem okW_iff {w : Wire} : okW w = true ↔ smallW w ∧ (0 ≤ w.Faults ∧ w.Faults ≤ 3) ∧ w.Presses.length ≤ 8 ∧ ∀ p, p ∈ w.Presses → okP w p = true := by
  simp only [okW, smallW, Bool.and_eq_true, inR_iff, decide_eq_true_eq, List.all_eq_true]
  constructor
  · rintro ⟨⟨⟨⟨a, b⟩, c⟩, d⟩, e⟩; exact ⟨⟨a, b⟩, c, d, e⟩
  · rintro ⟨⟨a, b⟩, c, d, e⟩; exact ⟨⟨⟨⟨a, b⟩, c⟩, d⟩, e⟩
theorem mul_small {w : Wire} (h : smallW w) : 0 ≤ w.Letters * w.Numbers ∧ w.Letters * w.Numbers ≤ 25 := by
  obtain ⟨h1, h2⟩ := h
  refine ⟨Int.mul_nonneg (by omega) (by omega), ?_⟩
  have := Int.mul_le_mul h1.2 h2.2 (by omega) (by omega)
  simpa using this
theorem c1_eq {w : Wire} (h : smallW w) (p : WirePress) : wires_Check_c1 p w = some (!okP w p) := by
  have hm := mul_small h
  unfold wires_Check_c1 wires_Check_c1_j1 okP
  rw [isPress_eq h, bnd_some, w64_id (x := w.Letters * w.Numbers) (by omega) (by omega), w64_id (by omega) (by omega), within_eq, bnd_some]
  by_cases hb : okB w p.Letter p.Number = true <;> simp [hb]
/-- slices.ContainsFunc with a function that has no state. -/
theorem containsP {n : Nat} (f : WirePress → Option Bool) (g : WirePress → Bool) (xs : List WirePress) (hf : ∀ x, x ∈ xs → f x = some (g x)) (hl : xs.length < 1048576) (hn : xs.length < n) :
    slices_ContainsFunc_apiWirePress n (fun x (_ : Unit) => (f x).map fun y => (y, ())) xs () = some (xs.any g, ()) := by
  have key : ∀ (l : List WirePress) (i m : Nat) (s : Unit), i ≤ xs.length → xs.drop i = l → l.length < m → (slices_IndexFunc_apiWirePress_l1 xs (fun x (_ : Unit) => (f x).map fun y => (y, ())) m (i : Int) s).map (fun r => decide (r.1 ≥ 0)) = some (l.any g) := by
    intro l i m s h1 h2 h3
    refine loopL (fun m i s => (slices_IndexFunc_apiWirePress_l1 xs (fun x (_ : Unit) => (f x).map fun y => (y, ())) m i s).map (fun r => decide (r.1 ≥ 0))) xs (fun l _ => some (l.any g)) hl (fun m s => ?_) (fun m i x l s hx hi hi' hd hrec => ?_) l i m s h1 h2 h3
    · simp [slices_IndexFunc_apiWirePress_l1, slices_IndexFunc_apiWirePress_l1_b, slices_IndexFunc_apiWirePress_j1]
    · have hmem : x ∈ xs := by
        unfold idx at hx
        rw [if_pos (by omega)] at hx
        exact List.mem_of_getElem? hx
      simp only [slices_IndexFunc_apiWirePress_l1, slices_IndexFunc_apiWirePress_l1_b]
      rw [if_pos (by simpa using hi), hx, bnd_some, hf x hmem]
      simp only [Option.map_some, bnd_some]
      by_cases hg : g x = true
      · rw [if_pos hg]
        simp [hg]
      · rw [if_neg hg]
        have := hrec ()
        rw [this]
        simp [hg]
  have h := key xs 0 n () (by omega) rfl hn
  unfold slices_ContainsFunc_apiWirePress slices_IndexFunc_apiWirePress
  change Option.map _ (slices_IndexFunc_apiWirePress_l1 xs _ n 0 ()) = _ at h
  cases hq : slices_IndexFunc_apiWirePress_l1 xs (fun x (_ : Unit) => (f x).map fun y => (y, ())) n 0 () with
  | none => rw [hq] at h; cases h
  | some r =>
    rw [hq] at h
    simp only [Option.map_some, Option.some.injEq] at h
    simp only [bnd_some]
    rw [← h]
theorem Check_eq {n : Nat} (w : Wire) (hn : 100 ≤ n) : wires_Check n w = some (cond (okW w) 0 110) := by
  unfold wires_Check
  simp only [within_eq, bnd_some]
  by_cases h1 : inR w.Letters 1 5 = true
  · rw [if_neg (by simp [h1])]
    by_cases h2 : inR w.Numbers 1 5 = true
    · rw [if_neg (by simp [h2])]
      by_cases h3 : inR w.Faults 0 3 = true
      · rw [if_neg (by simp [h3])]
        by_cases h4 : w.Presses.length ≤ 8
        · rw [if_neg (by simp; omega)]
          have hs : smallW w := ⟨inR_iff.1 h1, inR_iff.1 h2⟩
          rw [containsP (fun x => wires_Check_c1 x w) (fun p => !okP w p) w.Presses (fun x _ => c1_eq hs x) (by omega) (by omega), bnd_some]
          unfold wires_Check_j1 okW
          simp only [h1, h2, h3, h4, decide_true, Bool.true_and]
          by_cases h5 : w.Presses.all (okP w) = true
          · rw [if_neg]
            · simp [h5]
            · simp only [List.any_eq_true, not_exists, not_and]
              intro x hx
              have := List.all_eq_true.1 h5 x hx
              simp [this]
          · rw [if_pos]
            · simp [h5]
            · simp only [List.any_eq_true]
              simp only [List.all_eq_true, Classical.not_forall] at h5
              obtain ⟨x, hx, h⟩ := h5
              exact ⟨x, hx, by simpa using h⟩
        · rw [if_pos (by simp; omega)]
          simp [wires_Check_j1, okW, h4]
      · rw [if_pos (by simpa using h3)]
        simp [wires_Check_j1, okW, h3]
    · rw [if_pos (by simpa using h2)]
      simp [wires_Check_j1, okW, h2]
  · rw [if_pos (by simpa using h1)]
    simp [wires_Check_j1, okW, h1]
theorem rCheck_eq {n : Nat} (w : Wire) (hn : 100 ≤ n) : ref11_Check n w = some (cond (okW w) 0 110) := by
  unfold ref11_Check
  simp only [rwithin_eq, bnd_some]
  by_cases h1 : inR w.Letters 1 5 = true
  · rw [if_neg (by simp [h1])]
    by_cases h2 : inR w.Numbers 1 5 = true
    · rw [if_neg (by simp [h2])]
      by_cases h4 : w.Presses.length ≤ 8
      · rw [if_neg (by simp; omega)]
        by_cases h3 : inR w.Faults 0 3 = true
        · have hs : smallW w := ⟨inR_iff.1 h1, inR_iff.1 h2⟩
          have hm := mul_small hs
          unfold ref11_Check_j1
          rw [if_neg (by simp [h3])]
          have := loopL0 (F := fun m i (_ : Unit) => ref11_Check_l1 w m i) (xs := w.Presses) (spec := fun l _ => some (cond (l.all (okP w)) 0 110)) (n := n) (by omega) (by omega) () (fun m s => by simp [ref11_Check_l1, ref11_Check_l1_b, ref11_Check_j2]) (fun m i x l s hx hi hi' hd hrec => by
            simp only [ref11_Check_l1, ref11_Check_l1_b]
            rw [if_pos (by simpa using hi), hx, bnd_some, IsButton_eq hs, bnd_some]
            by_cases hb : okB w x.Letter x.Number = true
            · rw [if_neg (by simp [hb]), w64_id (x := w.Letters * w.Numbers) (by omega) (by omega), w64_id (x := w.Letters * w.Numbers - 1) (by omega) (by omega), rwithin_eq, bnd_some]
              unfold ref11_Check_j3
              by_cases hg : inR x.Got (-1) (w.Letters * w.Numbers - 1) = true
              · rw [if_neg (by simp [hg])]
                rw [hrec ()]
                simp [okP, hb, hg]
              · rw [if_pos (by simpa using hg)]
                simp [okP, hb, hg]
            · rw [if_pos (by simpa using hb)]
              simp [ref11_Check_j3, okP, hb])
          rw [show ref11_Check_l1 w n 0 = _ from this]
          simp [okW, h1, h2, h3, h4]
        · unfold ref11_Check_j1
          rw [if_pos (by simpa using h3)]
          simp [okW, h3]
      · rw [if_pos (by simp; omega)]
        simp [ref11_Check_j1, okW, h4]
    · rw [if_pos (by simpa using h2)]
      simp [ref11_Check_j1, okW, h2]
  · rw [if_pos (by simpa using h1)]
    simp [ref11_Check_j1, okW, h1]

theorem Copy_eqB (w : Wire) (hs : w.Presses.length * 24 ≤ 140737488355328) : ref11_Copy w = some w := by
  unfold ref11_Copy appB
  rw [if_pos ⟨by simpa using hs, by simp; omega⟩]
  rfl
def far (w : Wire) : Bool := decide (w.Presses.length > 40) || okW w && (decide (max w.Letters w.Numbers > 4) || decide (w.Faults > 2))
theorem Far_eq {n : Nat} (w : Wire) (hn : 100 ≤ n) : law11_Far n w = some (far w) := by
  unfold law11_Far far law11_Far_j1
  by_cases h1 : w.Presses.length > 40
  · rw [if_pos (by simp; omega)]
    simp [h1]
  · rw [if_neg (by simp; omega), rCheck_eq w hn, bnd_some]
    cases okW w with
    | true =>
      simp only [cond_true, beq_self_eq_true, if_true]
      by_cases h2 : max w.Letters w.Numbers > 4
      · rw [if_pos (by simpa using h2)]
        simp [h1, h2]
      · rw [if_neg (by simpa using h2)]
        simp [h1, h2]
    | false => simp [h1]

def deadF (kd : Int) (m : Nat) : List WireFault := (List.range m).map fun a => (⟨kd, (a : Nat), 0⟩ : WireFault)
def crossF (kd : Int) (m : Nat) : List WireFault := ((List.range m).map fun a => (List.range' (a + 1) (m - (a + 1))).map fun b => (⟨kd, (a : Nat), (b : Nat)⟩ : WireFault)).flatten
/-- All faults. -/
def allF (w : Wire) : List WireFault := deadF 1 w.Letters.toNat ++ (deadF 2 w.Numbers.toNat ++ (crossF 3 w.Letters.toNat ++ crossF 4 w.Numbers.toNat))
set_option maxRecDepth 100000 in
theorem open_eq {w : Wire} (h : smallW w) : wires_open 20000 w = some (some ⟨w, allF w⟩) := by
  obtain ⟨L, N, p, f⟩ := w
  obtain ⟨⟨h1, h2⟩, h3, h4⟩ := h
  simp only at h1 h2 h3 h4
  have hL : L = 1 ∨ L = 2 ∨ L = 3 ∨ L = 4 ∨ L = 5 := by omega
  have hN : N = 1 ∨ N = 2 ∨ N = 3 ∨ N = 4 ∨ N = 5 := by omega
  rcases hL with rfl | rfl | rfl | rfl | rfl <;> rcases hN with rfl | rfl | rfl | rfl | rfl <;> (show _ = _; kernel_rfl)
/-- What a fault is. -/
def okF (w : Wire) (f : WireFault) : Prop := (f.Kind = 1 ∧ (0 ≤ f.A ∧ f.A < w.Letters) ∧ f.B = 0) ∨ (f.Kind = 2 ∧ (0 ≤ f.A ∧ f.A < w.Numbers) ∧ f.B = 0) ∨ (f.Kind = 3 ∧ 0 ≤ f.A ∧ f.A < f.B ∧ f.B < w.Letters) ∨ (f.Kind = 4 ∧ 0 ≤ f.A ∧ f.A < f.B ∧ f.B < w.Numbers)
theorem mem_dead {kd : Int} {m : Nat} {f : WireFault} : f ∈ deadF kd m ↔ f.Kind = kd ∧ (0 ≤ f.A ∧ f.A < m) ∧ f.B = 0 := by
  unfold deadF
  rw [List.mem_map]
  constructor
  · rintro ⟨a, ha, rfl⟩
    have := List.mem_range.1 ha
    exact ⟨rfl, ⟨by simp, by simp; omega⟩, rfl⟩
  · rintro ⟨h1, ⟨h2, h3⟩, h4⟩
    refine ⟨f.A.toNat, List.mem_range.2 (by omega), ?_⟩
    obtain ⟨k, a, b⟩ := f
    simp only at *
    subst h1 h4
    congr 1
    omega
theorem mem_cross {kd : Int} {m : Nat} {f : WireFault} : f ∈ crossF kd m ↔ f.Kind = kd ∧ 0 ≤ f.A ∧ f.A < f.B ∧ f.B < m := by
  unfold crossF
  rw [List.mem_flatten]
  constructor
  · rintro ⟨l, hl, hf⟩
    obtain ⟨a, ha, rfl⟩ := List.mem_map.1 hl
    obtain ⟨b, hb, rfl⟩ := List.mem_map.1 hf
    have h1 := List.mem_range.1 ha
    have h2 := List.mem_range'_1.1 hb
    exact ⟨rfl, by simp, by simp; omega, by simp; omega⟩
  · rintro ⟨h1, h2, h3, h4⟩
    refine ⟨_, List.mem_map.2 ⟨f.A.toNat, List.mem_range.2 (by omega), rfl⟩, List.mem_map.2 ⟨f.B.toNat, List.mem_range'_1.2 (by omega), ?_⟩⟩
    obtain ⟨k, a, b⟩ := f
    simp only at *
    subst h1
    congr 1
    · omega
    · omega
theorem mem_all {w : Wire} (hw : smallW w) {f : WireFault} : f ∈ allF w ↔ okF w f := by
  obtain ⟨h1, h2⟩ := hw
  unfold allF okF
  simp only [List.mem_append, mem_dead, mem_cross]
  rw [show ((w.Letters.toNat : Nat) : Int) = w.Letters by omega, show ((w.Numbers.toNat : Nat) : Int) = w.Numbers by omega]
theorem all_len {w : Wire} (h : smallW w) : (allF w).length ≤ 30 := by
  obtain ⟨L, N, p, f⟩ := w
  obtain ⟨⟨h1, h2⟩, h3, h4⟩ := h
  simp only at h1 h2 h3 h4
  have hL : L = 1 ∨ L = 2 ∨ L = 3 ∨ L = 4 ∨ L = 5 := by omega
  have hN : N = 1 ∨ N = 2 ∨ N = 3 ∨ N = 4 ∨ N = 5 := by omega
  rcases hL with rfl | rfl | rfl | rfl | rfl <;> rcases hN with rfl | rfl | rfl | rfl | rfl <;> exact of_decide_eq_true (by kernel_rfl)

def clash (f g : WireFault) : Bool := f.Kind == g.Kind && (decide (f.Kind ≥ 3) && (f.A == g.A || (f.A == g.B || (f.B == g.A || f.B == g.B))))
theorem clash_symm (f g : WireFault) : clash f g = clash g f := by
  rw [Bool.eq_iff_iff]
  simp only [clash, Bool.and_eq_true, Bool.or_eq_true, beq_iff_eq, decide_eq_true_eq]
  omega
theorem clash_eq (f g : WireFault) : wires_clash f g = some (clash f g) := by
  unfold wires_clash wires_clash_j1 clash
  by_cases h1 : f.Kind = g.Kind
  · rw [if_pos (by simpa using h1)]
    by_cases h2 : f.Kind ≥ 3
    · rw [if_pos (by simpa using h2)]
      by_cases h3 : f.A = g.A
      · simp [h1, h3]; omega
      · by_cases h4 : f.A = g.B
        · simp [h1, h4]; omega
        · by_cases h5 : f.B = g.A
          · simp [h1, h5, h3, h4]; omega
          · have h3' : g.Kind ≥ 3 := by omega
            simp [h1, h5, h3', show (f.A == g.A) = false by simpa using h3, show (f.A == g.B) = false by simpa using h4, show (f.B == g.A) = false by simpa using h5]
    · rw [if_neg (by simpa using h2)]
      simp [h2]
  · rw [if_neg (by simpa using h1)]
    simp [h1]
theorem containsF {n : Nat} (f : WireFault → Option Bool) (g : WireFault → Bool) (xs : List WireFault) (hf : ∀ x, x ∈ xs → f x = some (g x)) (hl : xs.length < 1048576) (hn : xs.length < n) :
    slices_ContainsFunc_apiWireFault n (fun x (_ : Unit) => (f x).map fun y => (y, ())) xs () = some (xs.any g, ()) := by
  have key : ∀ (l : List WireFault) (i m : Nat) (s : Unit), i ≤ xs.length → xs.drop i = l → l.length < m → (slices_IndexFunc_apiWireFault_l1 xs (fun x (_ : Unit) => (f x).map fun y => (y, ())) m (i : Int) s).map (fun r => decide (r.1 ≥ 0)) = some (l.any g) := by
    intro l i m s h1 h2 h3
    refine loopL (fun m i s => (slices_IndexFunc_apiWireFault_l1 xs (fun x (_ : Unit) => (f x).map fun y => (y, ())) m i s).map (fun r => decide (r.1 ≥ 0))) xs (fun l _ => some (l.any g)) hl (fun m s => ?_) (fun m i x l s hx hi hi' hd hrec => ?_) l i m s h1 h2 h3
    · simp [slices_IndexFunc_apiWireFault_l1, slices_IndexFunc_apiWireFault_l1_b, slices_IndexFunc_apiWireFault_j1]
    · have hmem : x ∈ xs := by
        unfold idx at hx
        rw [if_pos (by omega)] at hx
        exact List.mem_of_getElem? hx
      simp only [slices_IndexFunc_apiWireFault_l1, slices_IndexFunc_apiWireFault_l1_b]
      rw [if_pos (by simpa using hi), hx, bnd_some, hf x hmem]
      simp only [Option.map_some, bnd_some]
      by_cases hg : g x = true
      · rw [if_pos hg]
        simp [hg]
      · rw [if_neg hg]
        have := hrec ()
        rw [this]
        simp [hg]
  have h := key xs 0 n () (by omega) rfl hn
  unfold slices_ContainsFunc_apiWireFault slices_IndexFunc_apiWireFault
  change Option.map _ (slices_IndexFunc_apiWireFault_l1 xs _ n 0 ()) = _ at h
  cases hq : slices_IndexFunc_apiWireFault_l1 xs (fun x (_ : Unit) => (f x).map fun y => (y, ())) n 0 () with
  | none => rw [hq] at h; cases h
  | some r =>
    rw [hq] at h
    simp only [Option.map_some, Option.some.injEq] at h
    simp only [bnd_some]
    rw [← h]

/-- The sets that begin with one, and go on with some of the rest. -/
def extS (G : List WireFault → List WireFault → List (List WireFault)) (first : List WireFault) : List WireFault → List (List WireFault)
  | [] => []
  | x :: r => (if first.any (clash x) then [] else G (first ++ [x]) r) ++ extS G first r
def gs : Nat → List WireFault → List WireFault → List (List WireFault)
  | 0, first, _ => [first]
  | k + 1, first, rest => first :: extS (gs k) first rest
/-- Yielding one after the other, until the answer is no. -/
def yieldAll {α S : Type} (aF : α → S → Option (Bool × S)) : List α → S → Option (Bool × S)
  | [], s => some (true, s)
  | x :: l, s => (aF x s).bind fun r => if r.1 = true then yieldAll aF l r.2 else some (false, r.2)
theorem yieldAll_append {α S : Type} (aF : α → S → Option (Bool × S)) : ∀ (l k : List α) (s : S), yieldAll aF (l ++ k) s = (yieldAll aF l s).bind fun r => if r.1 = true then yieldAll aF k r.2 else some (false, r.2)
  | [], k, s => by simp [yieldAll]
  | x :: l, k, s => by
    simp only [List.cons_append, yieldAll]
    cases h : aF x s with
    | none => rfl
    | some r =>
      simp only [Option.bind_some]
      cases hr : r.1 with
      | true => simp only [if_true]; exact yieldAll_append aF l k r.2
      | false => simp
theorem cut_all {α : Type} (xs : List α) : cut xs 0 (xs.length : Int) = some xs := by
  unfold cut
  rw [if_pos (by omega)]
  simp
theorem sets_eq {S : Type} (aF : List WireFault → S → Option (Bool × S)) (o : Wiring_) (hl : o.all.length ≤ 100) : ∀ (k n : Nat) (first : List WireFault) (i : Nat) (s : S), k + 1000 ≤ n → first.length + k ≤ 100 → i ≤ o.all.length → k ≤ 100 →
    wires_wiring_sets n aF (some o) first (i : Int) (k : Int) s = yieldAll aF (gs k first (o.all.drop i)) s := by
  intro k
  induction k with
  | zero =>
    intro n first i s hn hf hi hk
    obtain ⟨n, rfl⟩ : ∃ j, n = j + 1 := ⟨n - 1, by omega⟩
    simp only [wires_wiring_sets, wires_wiring_sets_b]
    simp only [gs, yieldAll, show (((0 : Nat) : Int) == 0) = true from rfl, if_true]
    cases h : aF first s with
    | none => rfl
    | some r =>
      simp only [Option.bind_some]
      rcases r with ⟨b, s'⟩
      cases b <;> rfl
  | succ k ih =>
    intro n first i s hn hf hi hk
    obtain ⟨n, rfl⟩ : ∃ j, n = j + 1 := ⟨n - 1, by omega⟩
    simp only [wires_wiring_sets, wires_wiring_sets_b]
    rw [show (((k + 1 : Nat) : Int) == 0) = false by simp; omega]
    simp only [Bool.false_eq_true, if_false]
    have key : ∀ s, wires_wiring_sets_l1 n (wires_wiring_sets n aF) (some o) first ((k + 1 : Nat) : Int) n (i : Int) s = yieldAll aF (extS (gs k) first (o.all.drop i)) s := fun s => by
      refine loopL (fun m i s => wires_wiring_sets_l1 n (wires_wiring_sets n aF) (some o) first ((k + 1 : Nat) : Int) m i s) o.all (fun l s => yieldAll aF (extS (gs k) first l) s) (by omega) (fun m s => ?_) (fun m i x l s hx hi hi' hd hrec => ?_) _ i n s hi rfl (by simp; omega)
      · simp [wires_wiring_sets_l1, wires_wiring_sets_l1_b, wires_wiring_sets_j1, extS, yieldAll]
      · simp only [wires_wiring_sets_l1, wires_wiring_sets_l1_b, bnd_some]
        rw [if_pos (by simpa using hi), hx, bnd_some]
        rw [containsF (fun x0 => wires_wiring_sets_c1 x0 x) (clash x) first (fun y _ => by unfold wires_wiring_sets_c1; rw [clash_eq]; rfl) (by omega) (by omega), bnd_some]
        simp only [extS]
        by_cases hc : first.any (clash x) = true
        · rw [if_pos hc, if_pos hc]
          simp only [wires_wiring_sets_j2, List.nil_append]
          exact hrec s
        · rw [if_neg hc, if_neg hc, cut_all, bnd_some, app_ok (by simp; omega), bnd_some, yieldAll_append]
          have := ih n (first ++ [x]) (i + 1) s (by omega) (by simp; omega) (by omega) (by omega)
          rw [hd] at this
          rw [w64_id (by omega) (by omega), w64_id (by omega) (by omega), show (i : Int) + 1 = ((i + 1 : Nat) : Int) by omega, show ((k + 1 : Nat) : Int) - 1 = (k : Int) by omega, this]
          cases h : yieldAll aF (gs k (first ++ [x]) l) s with
          | none => rfl
          | some r =>
            simp only [Option.bind_some]
            rcases r with ⟨b, s'⟩
            cases b with
            | false => rfl
            | true =>
              simp only [Bool.not_true, Bool.false_eq_true, if_false, if_true, wires_wiring_sets_j2]
              have := hrec s'
              rw [w64_id (by omega) (by omega)] at this
              rw [w64_id (by omega) (by omega)]
              exact this
    simp only [gs, yieldAll]
    cases h : aF first s with
    | none => rfl
    | some r =>
      simp only [Option.bind_some]
      rcases r with ⟨b, s'⟩
      cases b with
      | false => rfl
      | true =>
        simp only [Bool.not_true, Bool.false_eq_true, if_false, if_true]
        exact key s'
/-- How many sets there are at most. -/
def chs : Nat → Nat → Nat
  | 0, _ => 1
  | _ + 1, 0 => 1
  | k + 1, m + 1 => chs (k + 1) m + chs k m
theorem ext_len {k : Nat} {first : List WireFault} (hG : ∀ f r, (gs k f r).length ≤ chs k r.length) : ∀ rest : List WireFault, (extS (gs k) first rest).length + 1 ≤ chs (k + 1) rest.length
  | [] => by simp [extS, chs]
  | x :: r => by
    have := ext_len (first := first) hG r
    simp only [extS, List.length_append, List.length_cons, chs]
    have h1 : (if first.any (clash x) = true then [] else gs k (first ++ [x]) r).length ≤ chs k r.length := by
      split
      · simp
      · exact hG _ _
    omega
theorem gs_len (k : Nat) : ∀ first rest : List WireFault, (gs k first rest).length ≤ chs k rest.length := by
  induction k with
  | zero => intro f r; simp [gs, chs]
  | succ k ih =>
    intro f r
    have := ext_len (first := f) ih r
    simp only [gs, List.length_cons]
    exact this
theorem chs_small : ∀ m, m < 31 → ∀ k, k < 4 → chs k m ≤ 4526 ∧ (k < 3 → chs k m ≤ 961) := by decide

/-- Crossing two lines. -/
def xf (f : WireFault) (k : Int → Int) : Int → Int := fun i => if i = f.B then f.A else if i = f.A then f.B else k i
def crs (kd : Int) : List WireFault → (Int → Int) → Int → Int
  | [], k => k
  | f :: l, k => crs kd l (if f.Kind = kd then xf f k else k)
def df (f : WireFault) (k : Int → Int) : Int → Int := fun i => if i = f.A then -1 else k i
def ded (kd : Int) : List WireFault → (Int → Int) → Int → Int
  | [], k => k
  | f :: l, k => ded kd l (if f.Kind = kd then df f k else k)
/-- The numbers in it lie within five. -/
def inF (f : WireFault) : Prop := (0 ≤ f.A ∧ f.A < 5) ∧ (0 ≤ f.B ∧ f.B < 5)
theorem okF_in {w : Wire} (hw : smallW w) {f : WireFault} (h : okF w f) : inF f := by
  obtain ⟨h1, h2⟩ := hw
  unfold okF at h
  unfold inF
  omega
theorem five {a : Int} (h : 0 ≤ a ∧ a < 5) : a = 0 ∨ a = 1 ∨ a = 2 ∨ a = 3 ∨ a = 4 := by omega
theorem tab_idx (k : Int → Int) {a : Int} (h : 0 ≤ a ∧ a < 5) : idx [k 0, k 1, k 2, k 3, k 4] a = some (k a) := by
  rcases five h with rfl | rfl | rfl | rfl | rfl <;> rfl
theorem tab_set (k : Int → Int) {a : Int} (v : Int) (h : 0 ≤ a ∧ a < 5) : ∃ l, setI [k 0, k 1, k 2, k 3, k 4] a v = some l ∧ ∀ j : Nat, j < 5 → l.getD j 0 = if (j : Int) = a then v else k j := by
  rcases five h with rfl | rfl | rfl | rfl | rfl <;> refine ⟨_, rfl, fun j hj => ?_⟩ <;> (have : j = 0 ∨ j = 1 ∨ j = 2 ∨ j = 3 ∨ j = 4 := by omega) <;> rcases this with rfl | rfl | rfl | rfl | rfl <;> rfl
theorem c1_lo (k m : Int → Int) (f : WireFault) (h : inF f) : ∃ l, wires_wire_c1 [k 0, k 1, k 2, k 3, k 4, m 0, m 1, m 2, m 3, m 4] 0 f = some l ∧ (∀ j : Nat, j < 5 → l.getD j 0 = xf f k j) ∧ ∀ j : Nat, j < 5 → l.getD (5 + j) 0 = m j := by
  obtain ⟨kd, a, b⟩ := f
  obtain ⟨ha, hb⟩ := h
  simp only at ha hb
  unfold wires_wire_c1
  rw [if_pos ⟨ha, hb, by simp⟩]
  refine ⟨_, rfl, fun j hj => ?_, fun j hj => ?_⟩ <;> (have hj' : j = 0 ∨ j = 1 ∨ j = 2 ∨ j = 3 ∨ j = 4 := by omega) <;> rcases five ha with rfl | rfl | rfl | rfl | rfl <;> rcases five hb with rfl | rfl | rfl | rfl | rfl <;> rcases hj' with rfl | rfl | rfl | rfl | rfl <;> rfl
theorem c1_hi (k m : Int → Int) (f : WireFault) (h : inF f) : ∃ l, wires_wire_c1 [k 0, k 1, k 2, k 3, k 4, m 0, m 1, m 2, m 3, m 4] 5 f = some l ∧ (∀ j : Nat, j < 5 → l.getD j 0 = k j) ∧ ∀ j : Nat, j < 5 → l.getD (5 + j) 0 = xf f m j := by
  obtain ⟨kd, a, b⟩ := f
  obtain ⟨ha, hb⟩ := h
  simp only at ha hb
  unfold wires_wire_c1
  rw [if_pos ⟨ha, hb, by simp⟩]
  refine ⟨_, rfl, fun j hj => ?_, fun j hj => ?_⟩ <;> (have hj' : j = 0 ∨ j = 1 ∨ j = 2 ∨ j = 3 ∨ j = 4 := by omega) <;> rcases five ha with rfl | rfl | rfl | rfl | rfl <;> rcases five hb with rfl | rfl | rfl | rfl | rfl <;> rcases hj' with rfl | rfl | rfl | rfl | rfl <;> rfl
def mkP (k m : Int → Int) : Panel_ := ⟨⟨k 0, k 1, k 2, k 3, k 4⟩, ⟨m 0, m 1, m 2, m 3, m 4⟩⟩
theorem idx_mem {α : Type} {xs : List α} {i : Nat} {x : α} (h : idx xs (i : Int) = some x) : x ∈ xs := by
  unfold idx at h
  rw [if_pos (by omega)] at h
  exact List.mem_of_getElem? h
theorem dead_eq {n : Nat} (l : List WireFault) (hl : ∀ f, f ∈ l → inF f) (hs : l.length < 1048576) (hn : l.length < n) (k m : Int → Int) :
    wires_wire_j2 n l (k 0) (k 1) (k 2) (k 3) (k 4) (m 0) (m 1) (m 2) (m 3) (m 4) = some (mkP (ded 1 l k) (ded 2 l m)) := by
  unfold wires_wire_j2
  refine loopL0 (F := fun q i (s : (Int → Int) × (Int → Int)) => wires_wire_l1 l q i (s.1 0) (s.1 1) (s.1 2) (s.1 3) (s.1 4) (s.2 0) (s.2 1) (s.2 2) (s.2 3) (s.2 4)) (xs := l) (spec := fun l s => some (mkP (ded 1 l s.1) (ded 2 l s.2))) hs hn (k, m) (fun q s => ?_) (fun q i f t s hx hi hi' hd hrec => ?_)
  · simp [wires_wire_l1, wires_wire_l1_b, wires_wire_j3, mkP, ded]
  · have hf := hl f (idx_mem hx)
    simp only [wires_wire_l1, wires_wire_l1_b]
    rw [if_pos (by simpa using hi), hx, bnd_some]
    by_cases h1 : f.Kind = 1
    · rw [if_pos (by simpa using h1), tab_idx s.1 hf.1, bnd_some]
      obtain ⟨u, hu, hg⟩ := tab_set s.1 (-1) hf.1
      rw [hu, bnd_some]
      simp only [wires_wire_j4]
      rw [hg 0 (by omega), hg 1 (by omega), hg 2 (by omega), hg 3 (by omega), hg 4 (by omega)]
      have := hrec (df f s.1, s.2)
      simp only [ded, if_pos h1, if_neg (show ¬ f.Kind = 2 by omega)]
      exact this
    · rw [if_neg (by simpa using h1)]
      by_cases h2 : f.Kind = 2
      · rw [if_pos (by simpa using h2), tab_idx s.2 hf.1, bnd_some]
        obtain ⟨u, hu, hg⟩ := tab_set s.2 (-1) hf.1
        rw [hu, bnd_some]
        simp only [wires_wire_j4]
        rw [hg 0 (by omega), hg 1 (by omega), hg 2 (by omega), hg 3 (by omega), hg 4 (by omega)]
        have := hrec (s.1, df f s.2)
        simp only [ded, if_pos h2, if_neg h1]
        exact this
      · rw [if_neg (by simpa using h2)]
        simp only [wires_wire_j4, ded, if_neg h1, if_neg h2]
        exact hrec s
theorem cross_eq {n : Nat} (l : List WireFault) (hl : ∀ f, f ∈ l → inF f) (hs : l.length < 1048576) (hn : l.length < n) (k m : Int → Int) :
    wires_wire_j1 n l (k 0) (k 1) (k 2) (k 3) (k 4) (m 0) (m 1) (m 2) (m 3) (m 4) = some (mkP (ded 1 l (crs 3 l k)) (ded 2 l (crs 4 l m))) := by
  unfold wires_wire_j1
  refine loopL0 (F := fun q i (s : (Int → Int) × (Int → Int)) => wires_wire_l2 n l q i (s.1 0) (s.1 1) (s.1 2) (s.1 3) (s.1 4) (s.2 0) (s.2 1) (s.2 2) (s.2 3) (s.2 4)) (xs := l) (spec := fun t s => some (mkP (ded 1 l (crs 3 t s.1)) (ded 2 l (crs 4 t s.2)))) hs hn (k, m) (fun q s => ?_) (fun q i f t s hx hi hi' hd hrec => ?_)
  · simp only [wires_wire_l2, wires_wire_l2_b]
    rw [if_neg (by simp)]
    exact dead_eq l hl hs hn s.1 s.2
  · have hf := hl f (idx_mem hx)
    simp only [wires_wire_l2, wires_wire_l2_b]
    rw [if_pos (by simpa using hi), hx, bnd_some]
    by_cases h1 : f.Kind = 3
    · obtain ⟨u, hu, hg, hg'⟩ := c1_lo s.1 s.2 f hf
      rw [if_pos (by simpa using h1), hu, bnd_some]
      simp only [wires_wire_j5]
      rw [hg 0 (by omega), hg 1 (by omega), hg 2 (by omega), hg 3 (by omega), hg 4 (by omega), show u.getD 5 0 = s.2 0 from hg' 0 (by omega), show u.getD 6 0 = s.2 1 from hg' 1 (by omega), show u.getD 7 0 = s.2 2 from hg' 2 (by omega), show u.getD 8 0 = s.2 3 from hg' 3 (by omega), show u.getD 9 0 = s.2 4 from hg' 4 (by omega)]
      have := hrec (xf f s.1, s.2)
      simp only [crs, if_pos h1, if_neg (show ¬ f.Kind = 4 by omega)]
      exact this
    · rw [if_neg (by simpa using h1)]
      by_cases h2 : f.Kind = 4
      · obtain ⟨u, hu, hg, hg'⟩ := c1_hi s.1 s.2 f hf
        rw [if_pos (by simpa using h2), hu, bnd_some]
        simp only [wires_wire_j5]
        rw [hg 0 (by omega), hg 1 (by omega), hg 2 (by omega), hg 3 (by omega), hg 4 (by omega), show u.getD 5 0 = xf f s.2 0 from hg' 0 (by omega), show u.getD 6 0 = xf f s.2 1 from hg' 1 (by omega), show u.getD 7 0 = xf f s.2 2 from hg' 2 (by omega), show u.getD 8 0 = xf f s.2 3 from hg' 3 (by omega), show u.getD 9 0 = xf f s.2 4 from hg' 4 (by omega)]
        have := hrec (s.1, xf f s.2)
        simp only [crs, if_pos h2, if_neg h1]
        exact this
      · rw [if_neg (by simpa using h2)]
        simp only [wires_wire_j5, crs, if_neg h1, if_neg h2]
        exact hrec s
theorem wire_init (l : List WireFault) : wires_wire 20000 l = wires_wire_j1 20000 l 0 1 2 3 4 0 1 2 3 4 := by
  show _ = _
  kernel_rfl
theorem wire_eq (l : List WireFault) (hl : ∀ f, f ∈ l → inF f) (hs : l.length < 20000) : wires_wire 20000 l = some (mkP (ded 1 l (crs 3 l fun i => i)) (ded 2 l (crs 4 l fun i => i))) := by
  rw [wire_init]
  exact cross_eq l hl (by omega) hs (fun i => i) (fun i => i)
def playF (w : Wire) (l : List WireFault) (a b : Int) : Int :=
  if ded 1 l (crs 3 l fun i => i) a < 0 ∨ ded 2 l (crs 4 l fun i => i) b < 0 then -1 else ded 1 l (crs 3 l fun i => i) a * w.Numbers + ded 2 l (crs 4 l fun i => i) b
theorem crs_in (kd : Int) : ∀ (l : List WireFault) (k : Int → Int), (∀ f, f ∈ l → inF f) → (∀ i, 0 ≤ i ∧ i < 5 → 0 ≤ k i ∧ k i < 5) → ∀ i, 0 ≤ i ∧ i < 5 → 0 ≤ crs kd l k i ∧ crs kd l k i < 5
  | [], k, _, hk, i, hi => hk i hi
  | f :: l, k, hl, hk, i, hi => by
    refine crs_in kd l _ (fun g hg => hl g (by simp [hg])) (fun j hj => ?_) i hi
    have hf := hl f (by simp)
    obtain ⟨h1, h2⟩ := hf
    split
    · unfold xf
      split
      · exact h1
      · split
        · exact h2
        · exact hk j hj
    · exact hk j hj
theorem ded_in (kd : Int) : ∀ (l : List WireFault) (k : Int → Int) (i : Int), ded kd l k i = -1 ∨ ded kd l k i = k i
  | [], k, i => .inr rfl
  | f :: l, k, i => by
    simp only [ded]
    rcases ded_in kd l (if f.Kind = kd then df f k else k) i with h | h
    · exact .inl h
    · rw [h]
      split
      · unfold df
        split
        · exact .inl rfl
        · exact .inr rfl
      · exact .inr rfl
theorem plays_eq {w : Wire} {all : List WireFault} (hw : smallW w) (l : List WireFault) (hl : ∀ f, f ∈ l → inF f) {a b : Int} (ha : 0 ≤ a ∧ a < 5) (hb : 0 ≤ b ∧ b < 5) :
    wires_wiring_plays (some ⟨w, all⟩) (mkP (ded 1 l (crs 3 l fun i => i)) (ded 2 l (crs 4 l fun i => i))) a b = some (playF w l a b) := by
  obtain ⟨hw1, hw2⟩ := hw
  unfold wires_wiring_plays mkP
  simp only
  rw [tab_idx _ ha, bnd_some, tab_idx _ hb, bnd_some]
  unfold playF wires_wiring_plays_j1
  have ba := ded_in 1 l (crs 3 l fun i => i) a
  have bb := ded_in 2 l (crs 4 l fun i => i) b
  have ca := crs_in 3 l (fun i => i) hl (fun i h => h) a ha
  have cb := crs_in 4 l (fun i => i) hl (fun i h => h) b hb
  generalize ded 1 l (crs 3 l fun i => i) a = x at *
  generalize ded 2 l (crs 4 l fun i => i) b = y at *
  by_cases h1 : x < 0
  · rw [if_pos (by simpa using h1), if_pos rfl, if_pos (.inl h1)]
  · rw [if_neg (by simpa using h1)]
    by_cases h2 : y < 0
    · rw [if_pos (by simpa using h2), if_pos (.inr h2)]
    · rw [if_neg (by simpa using h2), if_neg (by omega), bnd_some]
      have hx : 0 ≤ x ∧ x < 5 := by omega
      have hm : 0 ≤ x * w.Numbers ∧ x * w.Numbers ≤ 25 := by
        refine ⟨Int.mul_nonneg (by omega) (by omega), ?_⟩
        have := Int.mul_le_mul (show x ≤ 5 by omega) hw2.2 (by omega) (by omega)
        simpa using this
      rw [w64_id (x := x * w.Numbers) (by omega) (by omega), w64_id (by omega) (by omega)]

/-! What the reference says -/
def other (kd : Int) : List WireFault → Int → Int
  | [], b => b
  | f :: l, b => if f.Kind = kd then (if f.A = b then f.B else if f.B = b then f.A else other kd l b) else other kd l b
def playS (w : Wire) (l : List WireFault) (a b : Int) : Int :=
  if (⟨1, a, 0⟩ : WireFault) ∈ l ∨ (⟨2, b, 0⟩ : WireFault) ∈ l then -1 else other 3 l a * w.Numbers + other 4 l b
theorem place_sign {n : Nat} (l : List WireFault) (f : WireFault) (hs : l.length < 1048576) (hn : l.length < n) : (ref11_place n l f).map (fun r => decide (r ≥ 0)) = some (decide (f ∈ l)) := by
  unfold ref11_place
  refine loopL0 (F := fun q i (_ : Unit) => (ref11_place_l1 l f q i).map (fun r => decide (r ≥ 0))) (xs := l) (spec := fun t _ => some (decide (f ∈ t))) hs hn () (fun q s => ?_) (fun q i g t s hx hi hi' hd hrec => ?_)
  · simp [ref11_place_l1, ref11_place_l1_b, ref11_place_j1]
  · simp only [ref11_place_l1, ref11_place_l1_b]
    rw [if_pos (by simpa using hi), hx, bnd_some]
    by_cases hg : g = f
    · subst hg
      simp
    · rw [if_neg (by
        obtain ⟨u1, u2, u3⟩ := g
        obtain ⟨v1, v2, v3⟩ := f
        simpa using hg), hrec ()]
      have : f ≠ g := fun e => hg e.symm
      simp [this]
theorem Has_eq {n : Nat} (l : List WireFault) (f : WireFault) (hs : l.length < 1048576) (hn : l.length < n) : ref11_Has n l f = some (decide (f ∈ l)) := by
  have := place_sign l f hs hn
  unfold ref11_Has
  cases h : ref11_place n l f with
  | none => rw [h] at this; cases this
  | some r => rw [h] at this; simpa using this
theorem other_in (kd : Int) : ∀ (l : List WireFault) (b : Int), (∀ f, f ∈ l → inF f) → 0 ≤ b ∧ b < 5 → 0 ≤ other kd l b ∧ other kd l b < 5
  | [], b, _, hb => hb
  | f :: l, b, hl, hb => by
    obtain ⟨h1, h2⟩ := hl f (by simp)
    have := other_in kd l b (fun g hg => hl g (by simp [hg])) hb
    simp only [other]
    split
    · split
      · exact h2
      · split
        · exact h1
        · exact this
    · exact this
/-! They are the same, where no two faults clash -/
def noClash (l : List WireFault) : Prop := l.Pairwise fun f g => clash f g = false
theorem clash_cross {f g : WireFault} (hk : f.Kind = g.Kind) (h3 : f.Kind ≥ 3) (h : clash f g = false) : f.A ≠ g.A ∧ f.A ≠ g.B ∧ f.B ≠ g.A ∧ f.B ≠ g.B := by
  have h' : ¬ clash f g = true := by simp [h]
  simp only [clash, Bool.and_eq_true, Bool.or_eq_true, beq_iff_eq, decide_eq_true_eq] at h'
  omega
def touch (kd : Int) (l : List WireFault) (i : Int) : Prop := ∃ f, f ∈ l ∧ f.Kind = kd ∧ (f.A = i ∨ f.B = i)
theorem crs_other {kd : Int} (h3 : kd ≥ 3) : ∀ (l : List WireFault) (k : Int → Int) (i : Int), noClash l → (∀ f, f ∈ l → f.Kind = kd → f.A < f.B) → (touch kd l i → crs kd l k i = other kd l i) ∧ (¬ touch kd l i → crs kd l k i = k i ∧ other kd l i = i)
  | [], k, i, _, _ => ⟨fun ⟨f, hf, _⟩ => by simp at hf, fun _ => ⟨rfl, rfl⟩⟩
  | f :: l, k, i, hc, hlt => by
    obtain ⟨hc1, hc2⟩ := List.pairwise_cons.1 hc
    by_cases hk : f.Kind = kd
    · obtain ⟨q1, q2⟩ := crs_other h3 l (xf f k) i hc2 fun g hg => hlt g (by simp [hg])
      simp only [crs, other, if_pos hk]
      by_cases hi : f.A = i ∨ f.B = i
      · have hne : ¬ touch kd l i := by
          rintro ⟨g, hg, hgk, h⟩
          have := clash_cross (hk.trans hgk.symm) (by omega) (hc1 g hg)
          omega
        refine ⟨fun _ => ?_, fun h => (h ⟨f, by simp, hk, hi⟩).elim⟩
        have hlt' := hlt f (by simp) hk
        rw [(q2 hne).1]
        unfold xf
        rcases hi with hA | hB
        · rw [if_neg (by omega), if_pos hA.symm, if_pos hA]
        · rw [if_pos hB.symm, if_neg (by omega), if_pos hB]
      · have hi1 : f.A ≠ i := fun e => hi (.inl e)
        have hi2 : f.B ≠ i := fun e => hi (.inr e)
        rw [if_neg hi1, if_neg hi2]
        refine ⟨fun ⟨g, hg, hgk, h⟩ => ?_, fun hn => ?_⟩
        · rcases List.mem_cons.1 hg with e | hg
          · subst e; exact (hi h).elim
          · exact q1 ⟨g, hg, hgk, h⟩
        · obtain ⟨e1, e2⟩ := q2 fun ⟨g, hg, hgk, h⟩ => hn ⟨g, by simp [hg], hgk, h⟩
          refine ⟨e1.trans ?_, e2⟩
          unfold xf
          rw [if_neg (fun e => hi2 e.symm), if_neg (fun e => hi1 e.symm)]
    · obtain ⟨q1, q2⟩ := crs_other h3 l k i hc2 fun g hg => hlt g (by simp [hg])
      simp only [crs, other, if_neg hk]
      refine ⟨fun ⟨g, hg, hgk, h⟩ => ?_, fun hn => ?_⟩
      · rcases List.mem_cons.1 hg with e | hg
        · subst e; exact (hk hgk).elim
        · exact q1 ⟨g, hg, hgk, h⟩
      · exact q2 fun ⟨g, hg, hgk, h⟩ => hn ⟨g, by simp [hg], hgk, h⟩
theorem crs_id {kd : Int} (h3 : kd ≥ 3) (l : List WireFault) (i : Int) (hc : noClash l) (hlt : ∀ f, f ∈ l → f.Kind = kd → f.A < f.B) : crs kd l (fun i => i) i = other kd l i := by
  obtain ⟨h1, h2⟩ := crs_other h3 l (fun i => i) i hc hlt
  by_cases h : touch kd l i
  · exact h1 h
  · exact (h2 h).1.trans (h2 h).2.symm
theorem ded_mem (kd : Int) : ∀ (l : List WireFault) (k : Int → Int) (i : Int), (∀ f, f ∈ l → f.Kind = kd → f.B = 0) → ded kd l k i = if (⟨kd, i, 0⟩ : WireFault) ∈ l then -1 else k i
  | [], k, i, _ => by simp [ded]
  | f :: l, k, i, h => by
    simp only [ded]
    rw [ded_mem kd l _ i fun g hg => h g (by simp [hg])]
    by_cases hm : (⟨kd, i, 0⟩ : WireFault) ∈ l
    · rw [if_pos hm, if_pos (by simp [hm])]
    · rw [if_neg hm]
      by_cases hf : f = ⟨kd, i, 0⟩
      · have e : (if f.Kind = kd then df f k else k) i = -1 := by
          subst hf
          simp [df]
        rw [e, if_pos (by simp [hf])]
      · have e : (if f.Kind = kd then df f k else k) i = k i := by
          by_cases hk : f.Kind = kd
          · rw [if_pos hk]
            unfold df
            refine if_neg fun hi => hf ?_
            have hB := h f (by simp) hk
            obtain ⟨u1, u2, u3⟩ := f
            subst hk hB hi
            rfl
          · rw [if_neg hk]
        rw [e, if_neg (by simp only [List.mem_cons, not_or]; exact ⟨fun e => hf e.symm, hm⟩)]
/-- A set of faults as it may be. -/
def goodL (w : Wire) (l : List WireFault) : Prop := (∀ f, f ∈ l → okF w f) ∧ noClash l
theorem play_same {w : Wire} (hw : smallW w) {l : List WireFault} (hg : goodL w l) {a b : Int} (ha : 0 ≤ a ∧ a < 5) (hb : 0 ≤ b ∧ b < 5) : playF w l a b = playS w l a b := by
  have hin : ∀ f, f ∈ l → inF f := fun f hf => okF_in hw (hg.1 f hf)
  have k3 : ∀ f, f ∈ l → f.Kind = 3 → f.A < f.B := fun f hf hk => by have := hg.1 f hf; unfold okF at this; omega
  have k4 : ∀ f, f ∈ l → f.Kind = 4 → f.A < f.B := fun f hf hk => by have := hg.1 f hf; unfold okF at this; omega
  have k1 : ∀ f, f ∈ l → f.Kind = 1 → f.B = 0 := fun f hf hk => by have := hg.1 f hf; unfold okF at this; omega
  have k2 : ∀ f, f ∈ l → f.Kind = 2 → f.B = 0 := fun f hf hk => by have := hg.1 f hf; unfold okF at this; omega
  unfold playF playS
  rw [ded_mem 1 l _ a k1, ded_mem 2 l _ b k2, crs_id (by omega) l a hg.2 k3, crs_id (by omega) l b hg.2 k4]
  have hx := other_in 3 l a hin ha
  have hy := other_in 4 l b hin hb
  by_cases h1 : (⟨1, a, 0⟩ : WireFault) ∈ l
  · simp [h1]
  · by_cases h2 : (⟨2, b, 0⟩ : WireFault) ∈ l
    · simp [h2]
    · simp only [if_neg h1, if_neg h2]
      rw [if_neg (by omega), if_neg (by simp [h1, h2])]

/-- Does it explain these presses. -/
def expl (w : Wire) (ps : List WirePress) (l : List WireFault) : Bool := ps.all fun p => playS w l p.Letter p.Number == p.Got
def btn (p : WirePress) : Prop := (0 ≤ p.Letter ∧ p.Letter < 5) ∧ (0 ≤ p.Number ∧ p.Number < 5)
theorem okP_btn {w : Wire} (hw : smallW w) {p : WirePress} (h : okP w p = true) : btn p := by
  obtain ⟨h1, h2⟩ := hw
  simp only [okP, okB, Bool.and_eq_true, inR_iff] at h
  unfold btn
  omega
theorem not_any_ne {α : Type} (f g : α → Int) (l : List α) : (!l.any fun p => f p != g p) = l.all fun p => f p == g p := by
  induction l with
  | nil => rfl
  | cons x l ih =>
    simp only [List.any_cons, List.all_cons, Bool.not_or, ih]
    cases h : f x == g x <;> simp [h, bne]
theorem explains_eq {w : Wire} (hw : smallW w) {all : List WireFault} {l : List WireFault} (hg : goodL w l) (hs : l.length < 20000) {ps : List WirePress} (hp : ∀ p, p ∈ ps → btn p) (hps : ps.length < 20000) :
    wires_wiring_explains 20000 (some ⟨w, all⟩) l ps = some (expl w ps l) := by
  have hin : ∀ f, f ∈ l → inF f := fun f hf => okF_in hw (hg.1 f hf)
  unfold wires_wiring_explains
  rw [wire_eq l hin hs, bnd_some, containsP (fun x0 => wires_wiring_explains_c1 x0 (some ⟨w, all⟩) (mkP (ded 1 l (crs 3 l fun i => i)) (ded 2 l (crs 4 l fun i => i)))) (fun p => playS w l p.Letter p.Number != p.Got) ps (fun p hm => by
    unfold wires_wiring_explains_c1
    rw [plays_eq hw l hin (hp p hm).1 (hp p hm).2, bnd_some, play_same hw hg (hp p hm).1 (hp p hm).2]) (by omega) hps, bnd_some]
  simp only
  rw [not_any_ne (fun p : WirePress => playS w l p.Letter p.Number) (fun p => p.Got)]
  rfl
/-! The sets -/
theorem mem_ext {G : List WireFault → List WireFault → List (List WireFault)} {first l : List WireFault} : ∀ rest : List WireFault, l ∈ extS G first rest ↔ ∃ p x r, rest = p ++ x :: r ∧ first.any (clash x) = false ∧ l ∈ G (first ++ [x]) r
  | [] => by simp [extS]
  | y :: rest => by
    simp only [extS, List.mem_append, mem_ext rest]
    constructor
    · rintro (h | ⟨p, x, r, rfl, h1, h2⟩)
      · split at h
        · simp at h
        · rename_i hc
          exact ⟨[], y, rest, rfl, by simpa using hc, h⟩
      · exact ⟨y :: p, x, r, rfl, h1, h2⟩
    · rintro ⟨p, x, r, he, h1, h2⟩
      cases p with
      | nil =>
        simp only [List.nil_append, List.cons.injEq] at he
        obtain ⟨rfl, rfl⟩ := he
        left
        rw [if_neg (by simp [h1])]
        exact h2
      | cons z p =>
        simp only [List.cons_append, List.cons.injEq] at he
        exact .inr ⟨p, x, r, he.2, h1, h2⟩
theorem noClash_snoc {first : List WireFault} {x : WireFault} (h : noClash first) : noClash (first ++ [x]) ↔ first.any (clash x) = false := by
  unfold noClash
  rw [List.pairwise_append]
  simp only [List.any_eq_false]
  constructor
  · rintro ⟨_, _, h3⟩ f hf
    have := h3 f hf x (by simp)
    rw [clash_symm]
    simp [this]
  · intro h3
    refine ⟨h, List.pairwise_singleton _ _, fun f hf y hy => ?_⟩
    simp at hy
    subst hy
    have := h3 f hf
    rw [clash_symm]
    simpa using this
theorem mem_gs (k : Nat) : ∀ (first rest l : List WireFault), noClash first → (l ∈ gs k first rest ↔ ∃ t, l = first ++ t ∧ t.Sublist rest ∧ t.length ≤ k ∧ noClash l) := by
  induction k with
  | zero =>
    intro first rest l hc
    simp only [gs, List.mem_singleton]
    constructor
    · rintro rfl
      exact ⟨[], by simp, List.nil_sublist _, by simp, hc⟩
    · rintro ⟨t, rfl, _, ht, _⟩
      have : t = [] := List.eq_nil_of_length_eq_zero (by omega)
      simp [this]
  | succ k ih =>
    intro first rest l hc
    simp only [gs, List.mem_cons, mem_ext]
    constructor
    · rintro (rfl | ⟨p, x, r, rfl, h1, h2⟩)
      · exact ⟨[], by simp, List.nil_sublist _, by simp, hc⟩
      · obtain ⟨t, rfl, h3, h4, h5⟩ := (ih (first ++ [x]) r l ((noClash_snoc hc).2 h1)).1 h2
        exact ⟨x :: t, by simp, List.Sublist.trans (h3.cons₂ x) (List.sublist_append_right _ _), by simp; omega, h5⟩
    · rintro ⟨t, rfl, h3, h4, h5⟩
      cases t with
      | nil => left; simp
      | cons x t =>
        right
        obtain ⟨p, r, rfl, h6⟩ : ∃ p r, rest = p ++ x :: r ∧ t.Sublist r := by
          clear h4 h5 ih
          induction rest with
          | nil => cases h3
          | cons y rest ih2 =>
            cases h3 with
            | cons _ h => obtain ⟨p, r, rfl, h6⟩ := ih2 h; exact ⟨y :: p, r, rfl, h6⟩
            | cons_cons _ h => exact ⟨[], rest, rfl, h⟩
        have h7 : noClash (first ++ [x]) := by
          have : first ++ x :: t = (first ++ [x]) ++ t := by simp
          unfold noClash at h5
          rw [this, List.pairwise_append] at h5
          exact h5.1
        simp only [List.length_cons] at h4
        exact ⟨p, x, r, rfl, (noClash_snoc hc).1 h7, (ih (first ++ [x]) r _ h7).2 ⟨t, by simp, h6, by omega, h5⟩⟩
/-- The sets of at most k faults. -/
def setsW (w : Wire) (k : Nat) : List (List WireFault) := gs k [] (allF w)
theorem mem_sets {w : Wire} {k : Nat} {l : List WireFault} : l ∈ setsW w k ↔ l.Sublist (allF w) ∧ l.length ≤ k ∧ noClash l := by
  unfold setsW
  rw [mem_gs k [] (allF w) l .nil]
  constructor
  · rintro ⟨t, rfl, h1, h2, h3⟩
    exact ⟨h1, h2, h3⟩
  · rintro ⟨h1, h2, h3⟩
    exact ⟨l, rfl, h1, h2, h3⟩
theorem sets_good {w : Wire} (hw : smallW w) {k : Nat} {l : List WireFault} (h : l ∈ setsW w k) : goodL w l ∧ l.length ≤ k := by
  obtain ⟨h1, h2, h3⟩ := mem_sets.1 h
  exact ⟨⟨fun f hf => (mem_all hw).1 (h1.subset hf), h3⟩, h2⟩
theorem sets_len {w : Wire} (hw : smallW w) {k : Nat} (hk : k ≤ 3) : (setsW w k).length ≤ 4526 :=
  Nat.le_trans (gs_len k _ _) (chs_small _ (by have := all_len hw; omega) k (by omega)).1
/-- Those that explain. -/
def T (w : Wire) (ps : List WirePress) (k : Nat) : List (List WireFault) := (setsW w k).filter (expl w ps)
theorem T_len {w : Wire} (hw : smallW w) (ps : List WirePress) {k : Nat} (hk : k ≤ 3) : (T w ps k).length ≤ 4526 := Nat.le_trans (List.length_filter_le _ _) (sets_len hw hk)

theorem yieldAll_congr {α S : Type} {aF bF : α → S → Option (Bool × S)} : ∀ (l : List α) (s : S), (∀ x, x ∈ l → ∀ s, aF x s = bF x s) → yieldAll aF l s = yieldAll bF l s
  | [], _, _ => rfl
  | x :: l, s, h => by
    simp only [yieldAll, h x (by simp)]
    congr 1
    funext r
    split
    · exact yieldAll_congr l r.2 fun y hy => h y (by simp [hy])
    · rfl
theorem yieldAll_filter {α S : Type} (aF : α → S → Option (Bool × S)) (e : α → Bool) : ∀ (l : List α) (s : S), yieldAll (fun x s => if e x = true then aF x s else some (true, s)) l s = yieldAll aF (l.filter e) s
  | [], _ => rfl
  | x :: l, s => by
    simp only [yieldAll]
    by_cases h : e x = true
    · rw [if_pos h, List.filter_cons_of_pos h]
      simp only [yieldAll]
      congr 1
      funext r
      split
      · exact yieldAll_filter aF e l r.2
      · rfl
    · rw [if_neg h, List.filter_cons_of_neg h]
      simp only [Option.bind_some, if_true]
      exact yieldAll_filter aF e l s
theorem explained_eq {S : Type} {w : Wire} (hw : smallW w) (aF : List WireFault → S → Option (Bool × S)) {k : Nat} (hk : k ≤ 3) {ps : List WirePress} (hp : ∀ p, p ∈ ps → btn p) (hps : ps.length < 20000) (s : S) :
    wires_wiring_explained_c1 20000 aF (some ⟨w, allF w⟩) (k : Int) ps s = (yieldAll aF (T w ps k) s).map fun r => ((), r.2) := by
  unfold wires_wiring_explained_c1
  have h0 := sets_eq (fun x0 s => wires_wiring_explained_c1_c1 20000 aF x0 (some ⟨w, allF w⟩) ps s) ⟨w, allF w⟩ (by have := all_len hw; simp only; omega) k 20000 [] 0 s (by omega) (by simp; omega) (by omega) (by omega)
  rw [show ((0 : Nat) : Int) = 0 from rfl] at h0
  rw [h0, show List.drop 0 (allF w) = allF w from rfl]
  rw [yieldAll_congr (bF := fun x s => if expl w ps x = true then aF x s else some (true, s)) _ s fun x hx s => by
    obtain ⟨hg, hl⟩ := sets_good hw (show x ∈ setsW w k from hx)
    unfold wires_wiring_explained_c1_c1 wires_wiring_explained_c1_c1_j1
    rw [explains_eq hw hg (by omega) hp hps, bnd_some]
    by_cases h : expl w ps x = true
    · rw [if_neg (by simp [h]), if_pos h]
      cases aF x s <;> rfl
    · rw [if_pos (by simpa using h), if_neg h]]
  rw [yieldAll_filter]
  cases h : yieldAll aF (T w ps k) s with
  | none => rw [show yieldAll aF (List.filter (expl w ps) (gs k [] (allF w))) s = none from h]; rfl
  | some r => rw [show yieldAll aF (List.filter (expl w ps) (gs k [] (allF w))) s = some r from h]; rfl
theorem okW_small {w : Wire} (h : okW w = true) : smallW w := (okW_iff.1 h).1
theorem okW_btn {w : Wire} (h : okW w = true) : ∀ p, p ∈ w.Presses → btn p := fun p hp => okP_btn (okW_small h) ((okW_iff.1 h).2.2.2 p hp)
/-- The faults that may be, of a wiring. -/
abbrev Tw (w : Wire) : List (List WireFault) := T w w.Presses w.Faults.toNat
theorem truths_eq {S : Type} {w : Wire} (h : okW w = true) (aF : List WireFault → S → Option (Bool × S)) (s : S) :
    wires_wiring_truths 20000 aF (some ⟨w, allF w⟩) s = (yieldAll aF (Tw w) s).map fun r => ((), r.2) := by
  obtain ⟨hw, hF, hP, _⟩ := okW_iff.1 h
  unfold wires_wiring_truths wires_wiring_explained
  simp only [bnd_some]
  have := explained_eq hw aF (k := w.Faults.toNat) (by omega) (okW_btn h) (by omega) s
  rw [show ((w.Faults.toNat : Nat) : Int) = w.Faults by omega] at this
  rw [this]
  cases yieldAll aF (T w w.Presses w.Faults.toNat) s <;> rfl
theorem ask_eq (w : Wire) (is : Bool) : wires_ask 20000 w is = some (if okW w = true then (if is = true then (if Tw w = [] then (none, 3) else (some ⟨w, allF w⟩, 0)) else (none, 1)) else (none, 110)) := by
  unfold wires_ask
  rw [Check_eq w (by omega), bnd_some]
  by_cases h : okW w = true
  · rw [if_pos h, if_neg (by simp [h])]
    cases is with
    | false => simp
    | true =>
      rw [if_neg (by simp), open_eq (okW_small h), bnd_some, truths_eq h]
      cases hT : Tw w with
      | nil => simp [yieldAll]
      | cons l r => simp [yieldAll, wires_ask_r1]
  · have h' : okW w = false := by simpa using h
    rw [if_neg h, if_pos (by simp [h'])]
    simp [h']
/-- Yielding to one who never says no. -/
theorem yieldAll_inv {α S : Type} {aF : α → S → Option (Bool × S)} (I : List α → S → Prop) (g : S → α → S) : ∀ (l : List α) (s : S), (∀ x l' s, x ∈ l → I (x :: l') s → aF x s = some (true, g s x) ∧ I l' (g s x)) → I l s → yieldAll aF l s = some (true, l.foldl g s) ∧ I [] (l.foldl g s)
  | [], s, _, h => ⟨rfl, h⟩
  | x :: l, s, hs, h => by
    obtain ⟨h1, h2⟩ := hs x l s (by simp) h
    simp only [yieldAll, h1, Option.bind_some, if_true, List.foldl_cons]
    exact yieldAll_inv I g l (g s x) (fun y l' s hy => hs y l' s (by simp [hy])) h2
theorem many_eq {w : Wire} (h : okW w = true) : wires_wiring_many 20000 (some ⟨w, allF w⟩) = some ((Tw w).length : Int) := by
  obtain ⟨hw, hF, hP, _⟩ := okW_iff.1 h
  have hl : (Tw w).length ≤ 4526 := T_len hw w.Presses (k := w.Faults.toNat) (by omega)
  unfold wires_wiring_many
  rw [truths_eq h]
  have h1 := yieldAll_inv (aF := wires_wiring_many_r1) (fun (l : List (List WireFault)) (s : Int) => 0 ≤ s ∧ s + l.length ≤ 100000) (fun s _ => s + 1) (Tw w) 0 (fun x l' s _ hI => by
    simp only [List.length_cons] at hI
    refine ⟨?_, by omega, by omega⟩
    unfold wires_wiring_many_r1
    rw [w64_id (by omega) (by omega)]) (by omega)
  rw [h1.1]
  have h2 : ∀ (l : List (List WireFault)) (s : Int), l.foldl (fun s _ => s + 1) s = s + l.length := fun l => by
    induction l with
    | nil => simp
    | cons x l ih => intro s; simp only [List.foldl_cons, ih, List.length_cons]; omega
  simp [h2]
/-- How many, and the error. -/
def manyS (w : Wire) : Int × Int := if okW w = true then (if Tw w = [] then (0, 3) else ((Tw w).length, 0)) else (0, 110)
theorem Many_eq (w : Wire) : wires_Many 20000 w = some (manyS w) := by
  unfold wires_Many manyS
  rw [ask_eq w true, bnd_some]
  by_cases h : okW w = true
  · simp only [if_pos h, if_true]
    by_cases hT : Tw w = []
    · simp [hT]
    · simp only [if_neg hT]
      rw [if_neg (by simp), many_eq h]
      rfl
  · simp [h]

section
variable {κ : Type} [DecidableEq κ]
theorem mget_mset : ∀ (M : List (κ × Int)) (k j : κ) (v : Int), mget (mset M k v) j = if k = j then v else mget M j
  | [], k, j, v => by simp [mset, mget]
  | p :: M, k, j, v => by
    simp only [mset]
    by_cases h : p.1 = k
    · rw [if_pos h]
      simp only [mget]
      by_cases e : k = j
      · rw [if_pos e, if_pos e]
      · rw [if_neg e, if_neg e, if_neg (by rw [h]; exact e)]
    · rw [if_neg h]
      simp only [mget, mget_mset M k j v]
      by_cases e : k = j
      · subst e
        simp [h]
      · rw [if_neg e, if_neg e]
theorem mset_keys : ∀ (M : List (κ × Int)) (k : κ) (v : Int) (x : κ), x ∈ (mset M k v).map (·.1) ↔ x = k ∨ x ∈ M.map (·.1)
  | [], k, v, x => by simp [mset]
  | p :: M, k, v, x => by
    simp only [mset]
    by_cases h : p.1 = k
    · rw [if_pos h]
      simp only [List.map_cons, List.mem_cons, ← h]
      constructor
      · rintro (e | e)
        · exact .inl e
        · exact .inr (.inr e)
      · rintro (e | e | e)
        · exact .inl e
        · exact .inl e
        · exact .inr e
    · rw [if_neg h]
      simp only [List.map_cons, List.mem_cons, mset_keys M k v x]
      constructor
      · rintro (e | e | e)
        · exact .inr (.inl e)
        · exact .inl e
        · exact .inr (.inr e)
      · rintro (e | e | e)
        · exact .inr (.inl e)
        · exact .inl e
        · exact .inr (.inr e)
theorem mset_nodup : ∀ (M : List (κ × Int)) (k : κ) (v : Int), (M.map (·.1)).Nodup → ((mset M k v).map (·.1)).Nodup
  | [], k, v, _ => by simp [mset]
  | p :: M, k, v, hn => by
    simp only [List.map_cons] at hn
    obtain ⟨h1, h2⟩ := List.nodup_cons.1 hn
    simp only [mset]
    by_cases h : p.1 = k
    · rw [if_pos h]
      simp only [List.map_cons]
      exact List.nodup_cons.2 ⟨by rw [← h]; exact h1, h2⟩
    · rw [if_neg h]
      simp only [List.map_cons]
      refine List.nodup_cons.2 ⟨fun hm => ?_, mset_nodup M k v h2⟩
      rcases (mset_keys M k v p.1).1 hm with e | e
      · exact h e
      · exact h1 e
/-- The keys are ones, and differ. -/
def MapOk (ok : κ → Bool) (M : List (κ × Int)) : Prop := (∀ x, x ∈ M.map (·.1) → ok x = true) ∧ (M.map (·.1)).Nodup
theorem MapOk.nil (ok : κ → Bool) : MapOk ok [] := ⟨fun x h => by simp at h, List.nodup_nil⟩
theorem MapOk.set {ok : κ → Bool} {M : List (κ × Int)} (h : MapOk ok M) {k : κ} (hk : ok k = true) (v : Int) : MapOk ok (mset M k v) :=
  ⟨fun x hx => by rcases (mset_keys M k v x).1 hx with rfl | hx; exact hk; exact h.1 x hx, mset_nodup M k v h.2⟩
theorem MapOk.mok {ok : κ → Bool} {M : List (κ × Int)} (h : MapOk ok M) {k : κ} (hk : ok k = true) : mok ok M k = true := by
  unfold Go.AM.mok
  simp only [Bool.and_eq_true, hk, true_and, List.all_eq_true, decide_eq_true_eq]
  exact ⟨fun p hp => h.1 _ (List.mem_map_of_mem hp), h.2⟩
/-- One more. -/
def bump (M : List (κ × Int)) (x : κ) : List (κ × Int) := mset M x (mget M x + 1)
theorem mget_bumps : ∀ (xs : List κ) (M : List (κ × Int)) (j : κ), mget (xs.foldl bump M) j = mget M j + (xs.count j : Nat)
  | [], M, j => by simp
  | x :: xs, M, j => by
    rw [List.foldl_cons, mget_bumps xs (bump M x) j]
    unfold bump
    rw [mget_mset, List.count_cons]
    by_cases h : x = j
    · subst h
      simp
      omega
    · rw [if_neg h]
      simp [h]
theorem MapOk.bumps {ok : κ → Bool} : ∀ (xs : List κ) {M : List (κ × Int)}, MapOk ok M → (∀ x, x ∈ xs → ok x = true) → MapOk ok (xs.foldl bump M)
  | [], _, h, _ => h
  | x :: xs, _, h, hx => MapOk.bumps xs (h.set (hx x (by simp)) _) fun y hy => hx y (by simp [hy])
end
theorem okI_of {x : Int} (h1 : -9223372036854775808 ≤ x) (h2 : x ≤ 9223372036854775807) : okI x = true := by
  unfold okI Lit.wf
  simp only [Bool.and_eq_true, decide_eq_true_eq]
  exact ⟨h1, h2⟩
theorem okF_key {w : Wire} (hw : smallW w) {f : WireFault} (h : okF w f) : okWireFault f = true := by
  obtain ⟨h1, h2⟩ := okF_in hw h
  have h3 : 1 ≤ f.Kind ∧ f.Kind ≤ 4 := by unfold okF at h; omega
  unfold okWireFault
  simp only [List.all_cons, List.all_nil, Bool.and_true, Bool.and_eq_true]
  exact ⟨okI_of (by omega) (by omega), okI_of (by omega) (by omega), okI_of (by omega) (by omega)⟩
theorem faults_loop (l : List WireFault) (hs : l.length < 20000) (hl : ∀ f, f ∈ l → okWireFault f = true) (M : List (WireFault × Int)) (hM : MapOk okWireFault M) (hb : ∀ f, 0 ≤ mget M f ∧ mget M f + l.length < 1000000) :
    wires_faults_r1 20000 l M = some (true, l.foldl bump M) := by
  unfold wires_faults_r1
  refine loopI (fun m i M => wires_faults_l2 l m i M) l (fun t M => some (true, t.foldl bump M)) (fun t M => MapOk okWireFault M ∧ ∀ f, 0 ≤ mget M f ∧ mget M f + t.length < 1000000) (by omega) (fun m s _ => ?_) (fun m i x t M hI hx hi hi' hd hrec => ?_) l 0 20000 M (by omega) rfl hs ⟨hM, hb⟩
  · simp [wires_faults_l2, wires_faults_l2_b]
  · obtain ⟨hM, hb⟩ := hI
    have hx' := hl x (idx_mem hx)
    have hbx := hb x
    simp only [List.length_cons] at hb hbx
    simp only [wires_faults_l2, wires_faults_l2_b]
    rw [if_pos (by simpa using hi), hx, bnd_some]
    unfold mlook
    rw [if_pos (hM.mok hx'), bnd_some, bnd_some, w64_id (x := mget M x + 1) (by omega) (by omega)]
    exact hrec _ ⟨hM.set hx' _, fun f => by
      rw [mget_mset]
      have := hb f
      split <;> omega⟩
set_option maxRecDepth 100000 in
theorem all_nodup {w : Wire} (h : smallW w) : (allF w).Nodup := by
  obtain ⟨L, N, p, f⟩ := w
  obtain ⟨⟨h1, h2⟩, h3, h4⟩ := h
  simp only at h1 h2 h3 h4
  have hL : L = 1 ∨ L = 2 ∨ L = 3 ∨ L = 4 ∨ L = 5 := by omega
  have hN : N = 1 ∨ N = 2 ∨ N = 3 ∨ N = 4 ∨ N = 5 := by omega
  rcases hL with rfl | rfl | rfl | rfl | rfl <;> rcases hN with rfl | rfl | rfl | rfl | rfl <;> exact of_decide_eq_true (by kernel_rfl)
/-- In how many of them a fault is. -/
def cntS (L : List (List WireFault)) (f : WireFault) : Int := (L.countP fun l => decide (f ∈ l) : Nat)
theorem cnt_flat : ∀ (L : List (List WireFault)) (f : WireFault), (∀ l, l ∈ L → l.Nodup) → ((L.flatten.count f : Nat) : Int) = cntS L f
  | [], f, _ => by simp [cntS]
  | l :: L, f, h => by
    have := cnt_flat L f fun k hk => h k (by simp [hk])
    unfold cntS at this ⊢
    rw [List.flatten_cons, List.count_append, List.countP_cons]
    have h1 : l.count f = if f ∈ l then 1 else 0 := List.Nodup.count (h l (by simp))
    rw [h1]
    by_cases hm : f ∈ l
    · rw [if_pos hm, if_pos (by simpa using hm)]
      omega
    · rw [if_neg hm, if_neg (by simpa using hm)]
      omega
theorem Tw_good {w : Wire} (h : okW w = true) {l : List WireFault} (hl : l ∈ Tw w) : goodL w l ∧ l.length ≤ 3 ∧ l.Nodup ∧ l.Sublist (allF w) := by
  obtain ⟨hw, hF, hP, _⟩ := okW_iff.1 h
  have hm := (List.mem_filter.1 hl).1
  obtain ⟨h1, h2⟩ := sets_good hw hm
  have h3 := (mem_sets.1 hm).1
  exact ⟨h1, by omega, (all_nodup hw).sublist h3, h3⟩
theorem Tw_len {w : Wire} (h : okW w = true) : (Tw w).length ≤ 4526 := by
  obtain ⟨hw, hF, hP, _⟩ := okW_iff.1 h
  exact T_len hw w.Presses (k := w.Faults.toNat) (by omega)
theorem flat_foldl {α β : Type} (g : β → α → β) : ∀ (L : List (List α)) (b : β), L.foldl (fun b l => l.foldl g b) b = L.flatten.foldl g b
  | [], _ => rfl
  | l :: L, b => by rw [List.foldl_cons, flat_foldl g L, List.flatten_cons, List.foldl_append]
theorem inmap_eq {w : Wire} (h : okW w = true) : ∃ M, yieldAll (wires_faults_r1 20000) (Tw w) [] = some (true, M) ∧ MapOk okWireFault M ∧ ∀ f, mget M f = cntS (Tw w) f := by
  obtain ⟨hw, hF, hP, _⟩ := okW_iff.1 h
  have hlen := Tw_len h
  obtain ⟨h1, h2, _⟩ := yieldAll_inv (aF := wires_faults_r1 20000) (fun (L : List (List WireFault)) M => MapOk okWireFault M ∧ ∀ f, 0 ≤ mget M f ∧ mget M f + 4 * L.length < 100000) (fun M l => l.foldl bump M) (Tw w) [] (fun l L M hl hI => by
    obtain ⟨hg, h3, _, _⟩ := Tw_good h hl
    obtain ⟨hM, hb⟩ := hI
    have hk : ∀ f, f ∈ l → okWireFault f = true := fun f hf => okF_key hw (hg.1 f hf)
    simp only [List.length_cons] at hb
    refine ⟨faults_loop l (by omega) hk M hM fun f => ?_, MapOk.bumps l hM hk, fun f => ?_⟩
    · have := hb f; omega
    · have := hb f
      have hc : l.count f ≤ l.length := List.count_le_length
      rw [mget_bumps]
      omega) ⟨MapOk.nil _, fun f => by simp only [mget]; omega⟩
  refine ⟨_, h1, h2, fun f => ?_⟩
  rw [flat_foldl, mget_bumps, cnt_flat _ _ fun l hl => (Tw_good h hl).2.2.1]
  simp [mget]
/-- The faults of which enough is true. -/
def faultsS (en : Int → Int → Bool) (w : Wire) : List WireFault × Int := if okW w = true then (if Tw w = [] then ([], 3) else ((allF w).filter fun f => en (cntS (Tw w) f) (Tw w).length, 0)) else ([], 110)
theorem faults_eq (en : Int → Int → Bool) (g : Int → Int → Option Bool) (hg : ∀ x y, g x y = some (en x y)) (w : Wire) :
    wires_faults 20000 (fun (x0 : Int) (x1 : Int) (_ : Unit) => (g x0 x1).map fun y => (y, ())) w () = some (faultsS en w, ()) := by
  unfold wires_faults faultsS
  rw [ask_eq w true, bnd_some]
  by_cases h : okW w = true
  · simp only [if_pos h, if_true]
    by_cases hT : Tw w = []
    · simp [hT]
    · simp only [if_neg hT]
      obtain ⟨hw, hF, hP, _⟩ := okW_iff.1 h
      obtain ⟨M, hM1, hM2, hM3⟩ := inmap_eq h
      rw [if_neg (by simp), truths_eq h, hM1, Option.map_some, bnd_some, bnd_some]
      have ha := all_len hw
      have key : ∀ (l : List WireFault) (i m : Nat) (s : List WireFault), i ≤ (allF w).length → (allF w).drop i = l → l.length < m → s.length + l.length < 1000 →
          wires_faults_l3 20000 (fun (x0 : Int) (x1 : Int) (_ : Unit) => (g x0 x1).map fun y => (y, ())) (some ⟨w, allF w⟩, 0) ((), M) ⟨w, allF w⟩ m s (i : Int) () = some ((s ++ l.filter fun f => en (cntS (Tw w) f) (Tw w).length, 0), ()) := by
        intro l i m s h1 h2 h3 h4
        refine loopI (fun m i s => wires_faults_l3 20000 (fun (x0 : Int) (x1 : Int) (_ : Unit) => (g x0 x1).map fun y => (y, ())) (some ⟨w, allF w⟩, 0) ((), M) ⟨w, allF w⟩ m s i ()) (allF w) (fun l s => some ((s ++ l.filter fun f => en (cntS (Tw w) f) (Tw w).length, 0), ())) (fun l s => s.length + l.length < 1000) (by omega) (fun m s _ => ?_) (fun m i x l s hI hx hi hi' hd hrec => ?_) l i m s h1 h2 h3 h4
        · simp [wires_faults_l3, wires_faults_l3_b, wires_faults_j1]
        · have hx' := okF_key hw ((mem_all hw).1 (idx_mem hx))
          simp only [List.length_cons] at hI
          simp only [wires_faults_l3, wires_faults_l3_b]
          rw [if_pos (by simpa using hi), hx, bnd_some]
          unfold mlook
          rw [if_pos (hM2.mok hx'), bnd_some, many_eq h, bnd_some, hM3, hg]
          simp only [Option.map_some, bnd_some]
          by_cases he : en (cntS (Tw w) x) (Tw w).length = true
          · rw [if_pos he, app_ok (by simp; omega), bnd_some, List.filter_cons_of_pos (by simpa using he)]
            unfold wires_faults_j2
            rw [hrec (s ++ [x]) (by rw [List.length_append]; simp; omega)]
            simp
          · rw [if_neg he, List.filter_cons_of_neg (by simpa using he)]
            unfold wires_faults_j2
            exact hrec s (by omega)
      have := key (allF w) 0 20000 [] (by omega) rfl (by omega) (by simp; omega)
      rw [show ((0 : Nat) : Int) = 0 from rfl, List.nil_append] at this
      exact this
  · simp [h]
def sureS (w : Wire) : List WireFault × Int := faultsS (fun x y => x == y) w
def maybeS (w : Wire) : List WireFault × Int := faultsS (fun x _ => decide (x > 0)) w
theorem Sure_eq (w : Wire) : wires_Sure 20000 w = some (sureS w) := by
  unfold wires_Sure
  rw [faults_eq (fun x y => x == y) wires_Sure_c1 (fun _ _ => rfl) w, bnd_some]
  rfl
theorem Maybe_eq (w : Wire) : wires_Maybe 20000 w = some (maybeS w) := by
  unfold wires_Maybe
  rw [faults_eq (fun x _ => decide (x > 0)) wires_Maybe_c1 (fun _ _ => rfl) w, bnd_some]
  rfl
theorem faultsS_len (en : Int → Int → Bool) (w : Wire) : (faultsS en w).1.length ≤ 30 := by
  unfold faultsS
  split
  · rename_i h
    split
    · simp
    · exact Nat.le_trans (List.length_filter_le _ _) (all_len (okW_small h))
  · simp

/-- What the button plays, for each of the sets. -/
def V (w : Wire) (a b : Int) : List Int := (Tw w).map fun l => playS w l a b
/-! The reference's tally -/
/-- The values with some, in order. -/
def pos (m : Nat) (vs : List Int) : List Int := ((List.range m).filter fun i : Nat => decide (0 < vs.count ((i : Int) - 1))).map fun i : Nat => (i : Int) - 1

/-! Which one to press next -/


theorem ready_eq (w : Wire) : law11_ready 20000 w = some (!far w && okW w) := by
  unfold law11_ready law11_ready_j1
  rw [Far_eq w (by omega), bnd_some]
  cases far w with
  | true => rfl
  | false =>
    simp only [Bool.not_false, if_true]
    rw [rCheck_eq w (by omega), bnd_some]
    cases okW w <;> rfl
theorem isKnown_eq (e : Int) : law11_isKnown e = some (e == 0 || e == 3) := by
  unfold law11_isKnown law11_isKnown_j1
  cases h : e == 0 <;> simp
theorem areIn_eq (a b : List WireFault) (ha : a.length ≤ 40) (hb : b.length ≤ 40) : law11_areIn 20000 a b = some (decide (∀ f, f ∈ a → f ∈ b)) := by
  unfold law11_areIn law11_areIn_j1
  rw [if_neg (by simp; omega), if_neg (by simp; omega)]
  refine loopL0 (F := fun m i (_ : Unit) => law11_areIn_l1 20000 a b m i) (xs := a) (spec := fun t _ => some (decide (∀ f, f ∈ t → f ∈ b))) (by omega) (by omega) () (fun m s => by simp [law11_areIn_l1, law11_areIn_l1_b, law11_areIn_j2]) (fun m i x t s hx hi hi' hd hrec => ?_)
  simp only [law11_areIn_l1, law11_areIn_l1_b]
  rw [if_pos (by simpa using hi), hx, bnd_some, Has_eq b x (by omega) (by omega), bnd_some]
  by_cases h : x ∈ b
  · rw [if_neg (by simp [h]), hrec ()]
    simp [h]
  · rw [if_pos (by simp [h])]
    simp [h]
theorem ext_sub {k : Nat} {first : List WireFault} (ih : ∀ f r, (gs k f r).Sublist (gs (k + 1) f r)) : ∀ rest : List WireFault, (extS (gs k) first rest).Sublist (extS (gs (k + 1)) first rest)
  | [] => .slnil
  | x :: r => by
    simp only [extS]
    refine List.Sublist.append ?_ (ext_sub ih r)
    split
    · exact .slnil
    · exact ih _ _
theorem gs_sub (k : Nat) : ∀ first rest : List WireFault, (gs k first rest).Sublist (gs (k + 1) first rest) := by
  induction k with
  | zero =>
    intro f r
    simp only [gs]
    exact List.Sublist.cons_cons _ (List.nil_sublist _)
  | succ k ih =>
    intro f r
    have := ext_sub (first := f) ih r
    simp only [gs] at this ⊢
    exact List.Sublist.cons_cons _ this
theorem T_sub (w : Wire) (ps : List WirePress) (k : Nat) : (T w ps k).Sublist (T w ps (k + 1)) := (gs_sub k [] (allF w)).filter _
theorem cnt_all {L : List (List WireFault)} {f : WireFault} : cntS L f = L.length ↔ ∀ l, l ∈ L → f ∈ l := by
  unfold cntS
  constructor
  · intro h l hl
    have h1 : L.countP (fun l => decide (f ∈ l)) = L.length := by omega
    have := List.countP_eq_length.1 h1 l hl
    simpa using this
  · intro h
    have h1 : L.countP (fun l => decide (f ∈ l)) = L.length := List.countP_eq_length.2 fun l hl => by simpa using h l hl
    omega
theorem cnt_pos {L : List (List WireFault)} {f : WireFault} : cntS L f > 0 ↔ ∃ l, l ∈ L ∧ f ∈ l := by
  unfold cntS
  constructor
  · intro h
    have h1 : 0 < L.countP (fun l => decide (f ∈ l)) := by omega
    obtain ⟨l, hl, hf⟩ := List.countP_pos_iff.1 h1
    exact ⟨l, hl, by simpa using hf⟩
  · rintro ⟨l, hl, hf⟩
    have h1 : 0 < L.countP (fun l => decide (f ∈ l)) := List.countP_pos_iff.2 ⟨l, hl, by simpa using hf⟩
    omega
theorem mem_sure {w : Wire} (h : okW w = true) (hT : Tw w ≠ []) {f : WireFault} : f ∈ (sureS w).1 ↔ f ∈ allF w ∧ ∀ l, l ∈ Tw w → f ∈ l := by
  unfold sureS faultsS
  rw [if_pos h, if_neg hT]
  simp only [List.mem_filter, beq_iff_eq]
  rw [cnt_all]
theorem mem_maybe {w : Wire} (h : okW w = true) (hT : Tw w ≠ []) {f : WireFault} : f ∈ (maybeS w).1 ↔ f ∈ allF w ∧ ∃ l, l ∈ Tw w ∧ f ∈ l := by
  unfold maybeS faultsS
  rw [if_pos h, if_neg hT]
  simp only [List.mem_filter, decide_eq_true_eq]
  rw [cnt_pos]
theorem sureS_len (w : Wire) : (sureS w).1.length ≤ 30 := faultsS_len _ w
theorem maybeS_len (w : Wire) : (maybeS w).1.length ≤ 30 := faultsS_len _ w
theorem ready_split {w : Wire} (h : (!far w && okW w) = true) : far w = false ∧ okW w = true := by
  simp only [Bool.and_eq_true, Bool.not_eq_true'] at h
  exact h
/-- One more fault. -/
def moreW (w : Wire) : Wire := ⟨w.Letters, w.Numbers, w.Presses, w.Faults + 1⟩
theorem more_T {w : Wire} (h : okW w = true) : (Tw w).Sublist (Tw (moreW w)) := by
  have hF := (okW_iff.1 h).2.1
  have e : (w.Faults + 1).toNat = w.Faults.toNat + 1 := by omega
  show (T w w.Presses w.Faults.toNat).Sublist (T w w.Presses (w.Faults + 1).toNat)
  rw [e]
  exact T_sub w w.Presses w.Faults.toNat
theorem codes_sure (w : Wire) : (sureS w).2 = (manyS w).2 := by
  unfold sureS faultsS manyS
  split
  · split <;> rfl
  · rfl
theorem codes_maybe (w : Wire) : (maybeS w).2 = (manyS w).2 := by
  unfold maybeS faultsS manyS
  split
  · split <;> rfl
  · rfl
theorem many_code {w : Wire} (h : okW w = true) : (Tw w = [] ∧ manyS w = (0, 3)) ∨ (Tw w ≠ [] ∧ manyS w = (((Tw w).length : Int), 0)) := by
  by_cases hT : Tw w = []
  · exact .inl ⟨hT, by unfold manyS; rw [if_pos h, if_pos hT]⟩
  · exact .inr ⟨hT, by unfold manyS; rw [if_pos h, if_neg hT]⟩
theorem law_WiresMore (w : Wire) (hw : w.Presses.length * 24 ≤ 140737488355328) : law11_WiresMore 20000 w = some true := by
  have hcopy : ref11_Copy w = some w := Copy_eqB w hw
  unfold law11_WiresMore
  rw [hcopy, bnd_some, ready_eq, bnd_some]
  have hworks : law11_WiresMore_j1 20000 w w true = some true := by
    unfold law11_WiresMore_j1
    rw [if_pos rfl, works_eq, bnd_some]
  by_cases hr : (!far w && okW w) = true
  · rw [if_neg (by rw [hr]; decide)]
    obtain ⟨hf, h⟩ := ready_split hr
    have hF := (okW_iff.1 h).2.1
    rw [w64_id (by omega) (by omega), show (⟨w.Letters, w.Numbers, w.Presses, w.Faults + 1⟩ : Wire) = moreW w from rfl, ready_eq, bnd_some]
    by_cases hr2 : (!far (moreW w) && okW (moreW w)) = true
    · rw [hr2]
      obtain ⟨_, h2⟩ := ready_split hr2
      unfold law11_WiresMore_j1 law11_WiresMore_j2 law11_WiresMore_j3
      rw [if_neg (by decide), Many_eq, bnd_some, w64_id (by omega) (by omega), show (⟨w.Letters, w.Numbers, w.Presses, w.Faults + 1⟩ : Wire) = moreW w from rfl, Many_eq, bnd_some, Sure_eq, bnd_some, Sure_eq, bnd_some, Maybe_eq, bnd_some, Maybe_eq, bnd_some]
      have hs := more_T h
      have hk : ∀ w, okW w = true → law11_isKnown (manyS w).2 = some true := fun w h => by
        rw [isKnown_eq]
        rcases many_code h with ⟨_, e⟩ | ⟨_, e⟩ <;> rw [e] <;> rfl
      rw [hk w h, bnd_some, if_neg (by decide), hk _ h2, bnd_some, if_neg (by decide), codes_sure, if_neg (by simp), codes_maybe, if_neg (by simp), codes_sure, if_neg (by simp), codes_maybe, if_neg (by simp)]
      rcases many_code h with ⟨_, e⟩ | ⟨hT, e⟩
      · rw [e, if_pos (by simp), works_eq, bnd_some]
      · have hT2 : Tw (moreW w) ≠ [] := fun e2 => hT (by rw [e2] at hs; exact List.sublist_nil.1 hs)
        obtain ⟨hT2', _⟩ | ⟨_, e2⟩ := many_code h2
        · exact absurd hT2' hT2
        · have hl := hs.length_le
          have ha : allF (moreW w) = allF w := rfl
          rw [e, e2, if_neg (by simp), if_pos (by simp), if_pos (by simp; omega)]
          rw [areIn_eq _ _ (by have := sureS_len (moreW w); omega) (by have := sureS_len w; omega), bnd_some, if_pos (decide_eq_true fun f hf => by
            rw [mem_sure h2 hT2] at hf
            rw [mem_sure h hT]
            exact ⟨ha ▸ hf.1, fun l hl => hf.2 l (hs.subset hl)⟩)]
          rw [areIn_eq _ _ (by have := maybeS_len w; omega) (by have := maybeS_len (moreW w); omega), bnd_some, if_pos (decide_eq_true fun f hf => by
            rw [mem_maybe h hT] at hf
            rw [mem_maybe h2 hT2]
            obtain ⟨h1, l, hl, h3⟩ := hf
            exact ⟨ha ▸ h1, l, hs.subset hl, h3⟩), works_eq, bnd_some]
    · rw [show (!far (moreW w) && okW (moreW w)) = false by simpa only [Bool.not_eq_true] using hr2]
      exact hworks
  · rw [show (!far w && okW w) = false by simpa only [Bool.not_eq_true] using hr]
    exact hworks
/-! First -/
end Go.Law
