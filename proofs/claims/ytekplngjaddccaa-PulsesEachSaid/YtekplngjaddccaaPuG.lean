/-
  Plain laws about the functions of pulses: clean pulses, as specified.
  Conditions: none.
-/
import Derived.Test.YtekplngjaddccaaPuF
set_option linter.all false
namespace Go.Law
open Go Go.AM

/-- Pulses of one group behind one at y: how many, the last one's time, and what is behind. -/
def run (p : Pulse) : Int → List Int → Nat × Int × List Int
  | y, [] => (0, y, [])
  | y, x :: l => if sameD p (x - y) then ((run p x l).1 + 1, (run p x l).2) else (0, y, x :: l)
theorem run_split (p : Pulse) : ∀ (l : List Int) (y : Int), ∃ q, y :: l = q ++ (run p y l).2.1 :: (run p y l).2.2 ∧ q.length = (run p y l).1
  | [], y => ⟨[], rfl, rfl⟩
  | x :: l, y => by
    simp only [run]
    cases h : sameD p (x - y) with
    | false => exact ⟨[], rfl, rfl⟩
    | true =>
      obtain ⟨q, h1, h2⟩ := run_split p l x
      exact ⟨y :: q, by simp only [if_true, List.cons_append]; rw [← h1], by simp [h2]⟩
theorem run_stop (p : Pulse) : ∀ (l : List Int) (y x : Int) (l' : List Int), (run p y l).2.2 = x :: l' → sameD p (x - (run p y l).2.1) = false
  | [], y, x, l', h => by simp [run] at h
  | z :: l, y, x, l', h => by
    simp only [run] at h ⊢
    cases hs : sameD p (z - y) with
    | true =>
      rw [hs] at h
      simp only [if_true] at h ⊢
      exact run_stop p l z x l' h
    | false =>
      rw [hs] at h
      simp only [Bool.false_eq_true, if_false] at h ⊢
      injection h with h1 h2
      rw [← h1]
      exact hs
theorem same_lt {p : Pulse} (hv : valid p = true) {d : Int} (h : sameD p d = true) : ¬ d ≥ p.Pause ∧ ¬ d ≥ p.Gap := by
  obtain ⟨v1, v2, v3, v4, v5, v6, _⟩ := valid_iff hv
  have := inR_iff.1 h
  omega
theorem clA {p : Pulse} (hv : valid p = true) : ∀ (l : List Int) (y g : Int) (out : List Int), cl p y g 0 out l = cl p (run p y l).2.1 (g + (run p y l).1) 0 out (run p y l).2.2
  | [], y, g, out => by simp [run]
  | x :: l, y, g, out => by
    cases hs : sameD p (x - y) with
    | true =>
      obtain ⟨d1, d2⟩ := same_lt hv hs
      have h := clA hv l x (g + 1) out
      simp only [run, hs, if_true]
      rw [cl]
      simp only [d1, d2, hs, if_false, if_true]
      rw [if_neg (by omega), h, show g + 1 + ((run p x l).1 : Int) = g + (((run p x l).1 + 1 : Nat) : Int) by push_cast; omega]
    | false => simp [run, hs]
theorem clB {p : Pulse} (hv : valid p = true) : ∀ (l : List Int) (y g h : Int) (out : List Int), 0 < h → cl p y g h out l = cl p (run p y l).2.1 g (h + (run p y l).1) out (run p y l).2.2
  | [], y, g, h, out, _ => by simp [run]
  | x :: l, y, g, h, out, hp => by
    cases hs : sameD p (x - y) with
    | true =>
      obtain ⟨d1, d2⟩ := same_lt hv hs
      have h' := clB hv l x g (h + 1) out (by omega)
      simp only [run, hs, if_true]
      rw [cl]
      simp only [d1, d2, hs, if_false, if_true]
      rw [if_pos hp, h', show h + 1 + ((run p x l).1 : Int) = h + (((run p x l).1 + 1 : Nat) : Int) by push_cast; omega]
    | false => simp [run, hs]
theorem group_l (p : Pulse) (hv : valid p = true) (a1 : List Int) (ha : a1.length ≤ 1000) (htm : ∀ x, x ∈ a1 → 0 ≤ x ∧ x ≤ 99999) (at_ : Nat) : ∀ (l pre : List Int) (m i : Nat) (y : Int), a1 = pre ++ y :: l → pre.length + 1 = at_ + i → l.length < m →
    ref13_group_l1 p a1 (at_ : Int) m (i : Int) = some ((i : Int) + (run p y l).1) := by
  obtain ⟨v1, v2, v3, v4, v5, v6, _⟩ := valid_iff hv
  intro l
  induction l with
  | nil =>
    intro pre m i y he hi hm
    have hl : a1.length = pre.length + 1 := by simp [he]
    obtain ⟨m, rfl⟩ : ∃ k, m = k + 1 := ⟨m - 1, by omega⟩
    simp only [ref13_group_l1, ref13_group_l1_b, ref13_group_j2, ref13_group_j1]
    rw [w64_id (x := (at_ : Int) + i) (by omega) (by omega), if_neg (by simp; omega), if_neg (by simp)]
    simp [run]
  | cons x l ih =>
    intro pre m i y he hi hm
    simp at hm
    have hl : a1.length = pre.length + (l.length + 2) := by simp [he]
    obtain ⟨m, rfl⟩ : ∃ k, m = k + 1 := ⟨m - 1, by omega⟩
    have hx := htm x (by simp [he])
    have hy := htm y (by simp [he])
    have i1 : idx a1 ((at_ : Int) + i) = some x := by
      have := idx_mid (pre ++ [y]) x l
      rw [show (((pre ++ [y]).length : Nat) : Int) = (at_ : Int) + i by simp; omega] at this
      rw [he]; simpa using this
    have i2 : idx a1 ((at_ : Int) + i - 1) = some y := by
      rw [show (at_ : Int) + i - 1 = pre.length by omega, he, idx_mid]
    simp only [ref13_group_l1, ref13_group_l1_b, ref13_group_j2, ref13_group_j1]
    rw [w64_id (x := (at_ : Int) + i) (by omega) (by omega), if_pos (by simp; omega), i1]
    simp only [Option.bind_some]
    rw [w64_id (x := (at_ : Int) + i - 1) (by omega) (by omega), i2]
    simp only [Option.bind_some, rwithin_eq]
    rw [w64_id (x := x - y) (by omega) (by omega), w64_id (x := p.Pitch - p.Slack) (by omega) (by omega), w64_id (x := p.Pitch + p.Slack) (by omega) (by omega)]
    show (if sameD p (x - y) = true then _ else _) = _
    simp only [run]
    cases hs : sameD p (x - y) with
    | false => simp
    | true =>
      simp only [if_true]
      rw [w64_id (by omega) (by omega)]
      have h := ih (pre ++ [y]) m (i + 1) x (by simp [he]) (by simp; omega) (by omega)
      push_cast at h ⊢
      rw [h]
      congr 1
      omega
theorem group_eq {n : Nat} (p : Pulse) (hv : valid p = true) (a1 : List Int) (ha : a1.length ≤ 1000) (htm : ∀ x, x ∈ a1 → 0 ≤ x ∧ x ≤ 99999) (hn : 1002 ≤ n) (l pre : List Int) (y : Int) (he : a1 = pre ++ y :: l) :
    ref13_group n p a1 (pre.length : Int) = some (1 + ((run p y l).1 : Int)) := by
  have hl : a1.length = pre.length + (l.length + 1) := by simp [he]
  exact group_l p hv a1 ha htm pre.length l pre n 1 y he rfl (by omega)
theorem good_zero (p : Pulse) (g : Int) : good p g 0 = false := by
  unfold good
  have : inR 0 1 p.Numbers = false := by simp [inR]
  rw [this, Bool.and_false]
theorem cl_bad {p : Pulse} {y g h : Int} {out l : List Int} (hg : good p g h = false) (hh : 0 < h) (hs : ∀ x l', l = x :: l' → sameD p (x - y) = false) : cl p y g h out l = none := by
  cases l with
  | nil => simp [cl, hg]
  | cons x l =>
    simp only [cl, hg, hs x l rfl, hh, if_true]
    simp
theorem Clean_l {n : Nat} (p : Pulse) (hv : valid p = true) (a1 : List Int) (ha : a1.length ≤ 1000) (htm : ∀ x, x ∈ a1 → 0 ≤ x ∧ x ≤ 99999) (hn : 1002 ≤ n) : ∀ (N : Nat) (l pre : List Int) (m : Nat) (y : Int) (out : List Int), l.length < N → a1 = pre ++ y :: l → l.length + 1 < m →
    out.length ≤ pre.length → ref13_Clean_l1 n p a1 m out (pre.length : Int) = some (toPair (cl p y 1 0 out l)) := by
  obtain ⟨v1, v2, v3, v4, v5, v6, _⟩ := valid_iff hv
  intro N
  induction N with
  | zero => intro l pre m y out hN; omega
  | succ N ih =>
    intro l pre m y out hN he hm ho
    obtain ⟨m, rfl⟩ : ∃ k, m = k + 1 := ⟨m - 1, by omega⟩
    have hl : a1.length = pre.length + (l.length + 1) := by simp [he]
    obtain ⟨q1, hq1, hq1l⟩ := run_split p l y
    have hst := run_stop p l y
    rw [clA hv]
    simp only [ref13_Clean_l1, ref13_Clean_l1_b]
    rw [if_pos (by simp; omega), group_eq p hv a1 ha htm hn l pre y he]
    simp only [Option.bind_some]
    have he1 : a1 = (pre ++ q1) ++ (run p y l).2.1 :: (run p y l).2.2 := by rw [List.append_assoc, ← hq1]; exact he
    have hlen1 : l.length + 1 = (run p y l).1 + ((run p y l).2.2.length + 1) := by
      have := congrArg List.length hq1
      simp at this
      omega
    generalize (run p y l).1 = r1 at hq1l hlen1 ⊢
    generalize (run p y l).2.1 = y1 at he1 hst ⊢
    generalize (run p y l).2.2 = l1 at he1 hst hlen1 ⊢
    have hL : (pre ++ q1).length = pre.length + r1 := by simp [hq1l]
    have hpos : w64 ((pre.length : Int) + (1 + (r1 : Int))) = (((pre ++ q1).length : Nat) : Int) + 1 := by rw [w64_id (by omega) (by omega), hL]; push_cast; omega
    rw [hpos]
    have hzero : ∀ rec1 : List Int → Int → Option (List Int × Bool), ref13_Clean_j5 n rec1 p a1 out (pre.length : Int) (1 + (r1 : Int)) false = some ([], false) := fun rec1 => by
      simp only [ref13_Clean_j5, ref13_Clean_j2, rwithin_eq, Option.bind_some, ref13_Clean_j3]
      rw [if_neg (by simp)]
      split
      · simp
      · rw [show inR 0 1 p.Numbers = false by simp [inR]]; simp
    cases l1 with
    | nil =>
      have : a1.length = (pre ++ q1).length + 1 := by rw [he1]; simp; omega
      rw [if_neg (by simp only [decide_eq_true_eq]; omega), hzero]
      simp [cl, good_zero, toPair]
    | cons x l2 =>
      have hs1 := hst x l2 rfl
      have hlen : a1.length = (pre ++ q1).length + (l2.length + 2) := by rw [he1]; simp; omega
      have hx := htm x (by rw [he1]; simp)
      have hy1 := htm y1 (by rw [he1]; simp)
      have i1 : idx a1 ((((pre ++ q1).length : Nat) : Int) + 1) = some x := by
        have := idx_mid ((pre ++ q1) ++ [y1]) x l2
        rw [show (((pre ++ q1 ++ [y1]).length : Nat) : Int) = (((pre ++ q1).length : Nat) : Int) + 1 by simp; omega] at this
        rw [he1]; simpa using this
      have i2 : idx a1 (w64 ((((pre ++ q1).length : Nat) : Int) + 1 - 1)) = some y1 := by
        rw [w64_id (by omega) (by omega), show (((pre ++ q1).length : Nat) : Int) + 1 - 1 = ((pre ++ q1).length : Nat) by omega, he1, idx_mid]
      rw [if_pos (by simp only [decide_eq_true_eq]; omega), i1]
      simp only [Option.bind_some]
      rw [i2]
      simp only [Option.bind_some, rwithin_eq]
      rw [w64_id (x := x - y1) (by omega) (by omega), w64_id (x := p.Pause - 1) (by omega) (by omega)]
      cases hw : inR (x - y1) p.Gap (p.Pause - 1) with
      | false =>
        rw [hzero, cl]
        have : cl p y1 (1 + (r1 : Int)) 0 out (x :: l2) = none := by
          simp only [cl, hs1, good_zero]
          split
          · simp
          · split
            · rename_i d1 d2
              have : inR (x - y1) p.Gap (p.Pause - 1) = true := inR_iff.2 ⟨d2, by omega⟩
              rw [this] at hw; cases hw
            · simp
        rw [cl] at this
        rw [this]
        rfl
      | true =>
        have hw' := inR_iff.1 hw
        obtain ⟨q2, hq2, hq2l⟩ := run_split p l2 x
        have hst2 := run_stop p l2 x
        have hcl : cl p y1 (1 + (r1 : Int)) 0 out (x :: l2) = cl p (run p x l2).2.1 (1 + (r1 : Int)) (1 + ((run p x l2).1 : Int)) out (run p x l2).2.2 := by
          rw [cl, if_neg (by omega), if_pos (by omega), if_neg (by omega), clB hv l2 x _ 1 out (by omega)]
        rw [hcl]
        simp only [ref13_Clean_j5, if_true]
        have hg2 := group_eq (n := n) p hv a1 ha htm hn l2 (pre ++ q1 ++ [y1]) x (by rw [he1]; simp)
        rw [show (((pre ++ q1 ++ [y1]).length : Nat) : Int) = (((pre ++ q1).length : Nat) : Int) + 1 by simp; omega] at hg2
        rw [hpos, hg2]
        simp only [Option.bind_some]
        have he2 : a1 = (pre ++ q1 ++ [y1] ++ q2) ++ (run p x l2).2.1 :: (run p x l2).2.2 := by
          rw [List.append_assoc, ← hq2, he1]; simp
        have hlen2 : l2.length + 1 = (run p x l2).1 + ((run p x l2).2.2.length + 1) := by
          have := congrArg List.length hq2
          simp at this
          omega
        generalize (run p x l2).1 = r2 at hq2l hlen2 ⊢
        generalize (run p x l2).2.1 = y2 at he2 hst2 ⊢
        generalize (run p x l2).2.2 = l3 at he2 hst2 hlen2 ⊢
        have hP : (pre ++ q1 ++ [y1] ++ q2).length = pre.length + r1 + 1 + r2 := by simp [hq1l, hq2l]; omega
        simp only [ref13_Clean_j2, rwithin_eq, Option.bind_some]
        have hsel : ∀ b, (if decide (1 + (r1 : Int) > p.Letters) = true then ref13_Clean_j3 b p a1 out (pre.length : Int) (1 + (r1 : Int)) (1 + (r2 : Int)) true else ref13_Clean_j3 b p a1 out (pre.length : Int) (1 + (r1 : Int)) (1 + (r2 : Int)) (!inR (1 + (r2 : Int)) 1 p.Numbers)) = ref13_Clean_j3 b p a1 out (pre.length : Int) (1 + (r1 : Int)) (1 + (r2 : Int)) (!good p (1 + (r1 : Int)) (1 + (r2 : Int))) := fun b => by
          unfold good
          by_cases hL : 1 + (r1 : Int) > p.Letters
          · have : inR (1 + (r1 : Int)) 1 p.Letters = false := by simp [inR]; omega
            rw [if_pos (by simpa using hL), this]; simp
          · have : inR (1 + (r1 : Int)) 1 p.Letters = true := inR_iff.2 ⟨by omega, by omega⟩
            rw [if_neg (by simpa using hL), this]; simp
        rw [hsel]
        cases hgd : good p (1 + (r1 : Int)) (1 + (r2 : Int)) with
        | false =>
          rw [cl_bad hgd (by omega) hst2]
          simp [ref13_Clean_j3, toPair]
        | true =>
          have hpos2 : w64 ((pre.length : Int) + w64 (1 + (r1 : Int) + (1 + (r2 : Int)))) = (((pre ++ q1 ++ [y1] ++ q2).length : Nat) : Int) + 1 := by
            rw [w64_id (x := 1 + (r1 : Int) + (1 + (r2 : Int))) (by omega) (by omega), w64_id (by omega) (by omega), hP]; push_cast; omega
          have hmul : 0 ≤ (r1 : Int) * p.Numbers ∧ (r1 : Int) * p.Numbers ≤ 1000 * 5 := ⟨Int.mul_nonneg (by omega) (by omega), Int.mul_le_mul (by omega) v2.2 (by omega) (by omega)⟩
          have hso : w64 (w64 (w64 (w64 (1 + (r1 : Int) - 1) * p.Numbers) + (1 + (r2 : Int))) - 1) = selOf p (1 + (r1 : Int)) (1 + (r2 : Int)) := by
            unfold selOf
            rw [show (1 : Int) + r1 - 1 = r1 by omega, w64_id (x := (r1 : Int)) (by omega) (by omega), w64_id (x := (r1 : Int) * p.Numbers) (by omega) (by omega), w64_id (x := (r1 : Int) * p.Numbers + (1 + (r2 : Int))) (by omega) (by omega), w64_id (by omega) (by omega)]
          simp only [Bool.not_true, ref13_Clean_j3, Bool.false_eq_true, if_false]
          rw [hso, app_ok (by simp; omega)]
          simp only [Option.bind_some]
          rw [hpos2]
          cases l3 with
          | nil =>
            have hend : a1.length = (pre ++ q1 ++ [y1] ++ q2).length + 1 := by rw [he2]; simp; omega
            rw [if_neg (by simp only [decide_eq_true_eq]; omega)]
            simp only [ref13_Clean_j4, Bool.false_eq_true, if_false]
            rw [hpos2]
            obtain ⟨m, rfl⟩ : ∃ k, m = k + 1 := ⟨m - 1, by omega⟩
            simp only [ref13_Clean_l1, ref13_Clean_l1_b, ref13_Clean_j1]
            rw [if_neg (by simp only [decide_eq_true_eq]; omega)]
            simp [cl, hgd, toPair]
          | cons z l4 =>
            have hs2 := hst2 z l4 rfl
            have hend : a1.length = (pre ++ q1 ++ [y1] ++ q2).length + (l4.length + 2) := by rw [he2]; simp; omega
            have hz := htm z (by rw [he2]; simp)
            have hy2 := htm y2 (by rw [he2]; simp)
            have i3 : idx a1 ((((pre ++ q1 ++ [y1] ++ q2).length : Nat) : Int) + 1) = some z := by
              have := idx_mid ((pre ++ q1 ++ [y1] ++ q2) ++ [y2]) z l4
              rw [show (((pre ++ q1 ++ [y1] ++ q2 ++ [y2]).length : Nat) : Int) = (((pre ++ q1 ++ [y1] ++ q2).length : Nat) : Int) + 1 by simp; omega] at this
              rw [he2]; simpa using this
            have i4 : idx a1 (w64 ((((pre ++ q1 ++ [y1] ++ q2).length : Nat) : Int) + 1 - 1)) = some y2 := by
              rw [w64_id (by omega) (by omega), show (((pre ++ q1 ++ [y1] ++ q2).length : Nat) : Int) + 1 - 1 = ((pre ++ q1 ++ [y1] ++ q2).length : Nat) by omega, he2, idx_mid]
            rw [if_pos (by simp only [decide_eq_true_eq]; omega), i3]
            simp only [Option.bind_some]
            rw [i4]
            simp only [Option.bind_some]
            rw [w64_id (x := z - y2) (by omega) (by omega)]
            simp only [ref13_Clean_j4]
            by_cases hd : z - y2 < p.Pause
            · rw [if_pos (by simpa using hd), cl, if_neg (by omega)]
              have : ¬ (sameD p (z - y2) = true) := by rw [hs2]; simp
              simp only [this, if_false]
              rw [if_pos (show 1 + (r2 : Int) > 0 by omega)]
              simp [toPair]
            · rw [if_neg (by simpa using hd), hpos2, cl, if_pos (by omega)]
              have h := ih l4 (pre ++ q1 ++ [y1] ++ q2 ++ [y2]) m z (out ++ [selOf p (1 + (r1 : Int)) (1 + (r2 : Int))]) (by omega) (by rw [he2]; simp) (by omega) (by simp; omega)
              rw [show (((pre ++ q1 ++ [y1] ++ q2 ++ [y2]).length : Nat) : Int) = (((pre ++ q1 ++ [y1] ++ q2).length : Nat) : Int) + 1 by simp; omega] at h
              rw [h]
              simp [hgd]
theorem Clean_eq {n : Nat} (p : Pulse) (hv : valid p = true) (l : List Int) (ha : l.length ≤ 1000) (htm : ∀ x, x ∈ l → 0 ≤ x ∧ x ≤ 99999) (hn : 1010 ≤ n) : ref13_Clean n p l = some (toPair (clean p l)) := by
  unfold ref13_Clean
  cases l with
  | nil =>
    obtain ⟨n, rfl⟩ : ∃ k, n = k + 1 := ⟨n - 1, by omega⟩
    simp [ref13_Clean_l1, ref13_Clean_l1_b, ref13_Clean_j1, clean, toPair]
  | cons x l => exact Clean_l (n := n) p hv (x :: l) ha htm (by omega) (l.length + 1) l [] n x [] (by omega) rfl (by simp at ha; omega) (by simp)
end Go.Law
