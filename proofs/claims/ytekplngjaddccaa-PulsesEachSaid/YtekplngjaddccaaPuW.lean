/-
  Plain laws about the functions of pulses: Real, Sparks, and the law of Real.
  Conditions: none.
-/
import Derived.Test.YtekplngjaddccaaPuV
set_option linter.all false
namespace Go.Law
open Go Go.AM

/-- In how many readings a pulse is a spark. -/
def oft (p : Pulse) (i : Nat) : Nat := (goodP p p.Sparks.toNat).countP fun is => is.contains i
theorem count_read_eq {n : Nat} (L : List Reading_) (v : Int) (f : Reading_ → Bool) (hf : ∀ x, x ∈ L → pulses_set_has x.sparks v = some (f x)) (hs : L.length < 1000000) (hn : L.length < n) :
    pulses_count_pulsesreading n (fun (x0 : Reading_) (_ : Unit) => (pulses_pulses_c1 x0 v).map fun y => (y, ())) L () = some (((L.countP f : Nat) : Int), ()) := by
  have key : ∀ (l pre : List Reading_) (m c : Nat), L = pre ++ l → l.length < m → c ≤ pre.length → pulses_count_pulsesreading_l1 L (fun (x0 : Reading_) (_ : Unit) => (pulses_pulses_c1 x0 v).map fun y => (y, ())) m (c : Int) (pre.length : Int) () = some ((((c + l.countP f : Nat)) : Int), ()) := by
    intro l
    induction l with
    | nil =>
      intro pre m c he hm hc
      obtain ⟨m, rfl⟩ : ∃ k, m = k + 1 := ⟨m - 1, by omega⟩
      simp [pulses_count_pulsesreading_l1, pulses_count_pulsesreading_l1_b, pulses_count_pulsesreading_j1, he]
    | cons y l ih =>
      intro pre m c he hm hcl
      simp at hm
      have hl : L.length = pre.length + (l.length + 1) := by simp [he]
      obtain ⟨m, rfl⟩ : ∃ k, m = k + 1 := ⟨m - 1, by omega⟩
      have hc : (((pre ++ [y]).length : Nat) : Int) = (pre.length : Int) + 1 := by simp
      simp only [pulses_count_pulsesreading_l1, pulses_count_pulsesreading_l1_b, pulses_count_pulsesreading_j2]
      rw [if_pos (by simp; omega), show idx L (pre.length : Int) = some y by rw [he, idx_mid]]
      simp only [Option.bind_some, pulses_pulses_c1, hf y (by simp [he]), Option.map_some]
      rw [w64_id (x := (pre.length : Int) + 1) (by omega) (by omega), w64_id (x := (c : Int) + 1) (by omega) (by omega), List.countP_cons]
      cases e : f y with
      | true =>
        simp only [if_true]
        have h := ih (pre ++ [y]) m (c + 1) (by simp [he]) (by omega) (by simp; omega)
        rw [hc] at h
        simp only [pulses_pulses_c1] at h
        rw [show ((c : Int) + 1) = ((c + 1 : Nat) : Int) by omega, h]
        congr 3; omega
      | false =>
        simp only [Bool.false_eq_true, if_false]
        have h := ih (pre ++ [y]) m c (by simp [he]) (by omega) (by simp; omega)
        rw [hc] at h
        simp only [pulses_pulses_c1] at h
        rw [h]
        rfl
  have h := key L [] n 0 rfl hn (by simp)
  unfold pulses_count_pulsesreading
  rw [show pulses_count_pulsesreading_l1 L _ n 0 0 () = _ from h, Nat.zero_add]
theorem oft_code {n : Nat} (p : Pulse) (hs : p.Times.length ≤ 40) (i : Nat) (hi : i < 60) (hg : (goodP p p.Sparks.toNat).length ≤ 13500) (hn : 15000 ≤ n) :
    pulses_count_pulsesreading n (fun (x0 : Reading_) (_ : Unit) => (pulses_pulses_c1 x0 (i : Int)).map fun y => (y, ())) ((goodP p p.Sparks.toNat).map fun is => (⟨((bits 0 is : Nat) : Int), listOf p is⟩ : Reading_)) () = some (((oft p i : Nat) : Int), ()) := by
  rw [count_read_eq _ (i : Int) (fun r => r.sparks.toNat.testBit i) (fun x hx => by
    obtain ⟨is, his, rfl⟩ := List.mem_map.1 hx
    obtain ⟨h1, h2, h3⟩ := mem_goodP.1 his
    have hb := pos_lt hs h2
    simp only
    rw [has_nat hb hi, Int.toNat_natCast]) (by simp; omega) (by simp; omega)]
  congr 3
  rw [List.countP_map]
  unfold oft
  congr 1
  funext is
  simp only [Function.comp, Int.toNat_natCast, bits_test]
  simp
theorem pulses_sel {n : Nat} (p : Pulse) (hs : p.Times.length ≤ 40) (hf : valid p = true → p.Times.length ≤ 14) (hn : 15000 ≤ n) (aF : Int → Int → Unit → Option (Bool × Unit)) (G : Int → Int → Bool) (hG : ∀ a b, aF a b () = some (G a b, ())) :
    pulses_pulses n aF p () = some ((if (openR p).2 ≠ 0 then ([], (openR p).2) else (ints' ((spots p).filter fun i => G (oft p i) ((goodP p p.Sparks.toNat).length : Int)), 0)), ()) := by
  obtain ⟨s'', h⟩ := open_any (n := n) p (by omega) (by omega)
  unfold pulses_pulses
  rw [h]
  simp only [Option.bind_some]
  by_cases h0 : (openR p).2 = 0
  · rw [if_neg (by simp [h0]), if_neg (by simp [h0])]
    have hv : valid p = true := by
      cases hv : valid p with
      | true => rfl
      | false => simp [openR, hv] at h0
    obtain ⟨v1, v2, v3, v4, v5, v6, v7, v8, v9⟩ := valid_iff hv
    have hg := good_len (p := p) (by omega) (hf hv)
    have ho : openR p = ((goodP p p.Sparks.toNat).map fun is => (⟨((bits 0 is : Nat) : Int), listOf p is⟩ : Reading_), 0) := by
      unfold openR at h0 ⊢
      rw [if_pos hv] at h0 ⊢
      split at h0
      · cases h0
      · rw [if_neg (by assumption)]
    rw [ho]
    have key : ∀ (d a m : Nat) (out : List Int), a + d = p.Times.length → d < m → out.length ≤ a →
        pulses_pulses_l1 n p aF (((goodP p p.Sparks.toNat).map fun is => (⟨((bits 0 is : Nat) : Int), listOf p is⟩ : Reading_), 0), s'') m out (a : Int) () = some ((out ++ ints' ((List.range' a d).filter fun i => G (oft p i) ((goodP p p.Sparks.toNat).length : Int)), 0), ()) := by
      intro d
      induction d with
      | zero =>
        intro a m out ha hm ho
        obtain ⟨m, rfl⟩ : ∃ k, m = k + 1 := ⟨m - 1, by omega⟩
        simp only [pulses_pulses_l1, pulses_pulses_l1_b, pulses_pulses_j1]
        rw [if_neg (by simp; omega)]
        simp [ints']
      | succ d ih =>
        intro a m out ha hm ho
        obtain ⟨m, rfl⟩ : ∃ k, m = k + 1 := ⟨m - 1, by omega⟩
        simp only [pulses_pulses_l1, pulses_pulses_l1_b, pulses_pulses_j2]
        rw [if_pos (by simp; omega), oft_code p hs a (by omega) hg hn]
        simp only [Option.bind_some, List.length_map, hG]
        rw [w64_id (x := (a : Int) + 1) (by omega) (by omega), List.range'_succ, List.filter_cons]
        cases hb : G (oft p a) ((goodP p p.Sparks.toNat).length : Int) with
        | true =>
          simp only [if_true]
          rw [app_ok (by simp; omega)]
          simp only [Option.bind_some]
          have h := ih (a + 1) m (out ++ [(a : Int)]) (by omega) (by omega) (by simp; omega)
          rw [show ((a : Int) + 1) = ((a + 1 : Nat) : Int) by omega, h]
          simp [ints']
        | false =>
          simp only [Bool.false_eq_true, if_false]
          have h := ih (a + 1) m out (by omega) (by omega) (by omega)
          rw [show ((a : Int) + 1) = ((a + 1 : Nat) : Int) by omega, h]
    have hk := key p.Times.length 0 n [] (by omega) (by omega) (by simp)
    rw [show pulses_pulses_l1 n p aF (((goodP p p.Sparks.toNat).map fun is => (⟨((bits 0 is : Nat) : Int), listOf p is⟩ : Reading_), 0), s'') n [] 0 () = _ from hk]
    rfl
  · rw [if_pos (by simp [h0]), if_pos h0]
def realR (p : Pulse) : List Int × Int := if (openR p).2 ≠ 0 then ([], (openR p).2) else (ints' ((spots p).filter fun i => oft p i == 0), 0)
def sparksR (p : Pulse) : List Int × Int := if (openR p).2 ≠ 0 then ([], (openR p).2) else (ints' ((spots p).filter fun i => oft p i == (goodP p p.Sparks.toNat).length), 0)
theorem cast_beq (a b : Nat) : ((a : Int) == (b : Int)) = (a == b) := by
  by_cases h : a = b
  · subst h; simp
  · have h1 : ((a : Int) == (b : Int)) = false := beq_eq_false_iff_ne.2 (by omega)
    have h2 : (a == b) = false := beq_eq_false_iff_ne.2 h
    rw [h1, h2]
theorem Real_eq {n : Nat} (p : Pulse) (hs : p.Times.length ≤ 40) (hf : valid p = true → p.Times.length ≤ 14) (hn : 15000 ≤ n) : pulses_Real n p = some (realR p) := by
  unfold pulses_Real realR
  rw [pulses_sel p hs hf hn _ (fun a _ => a == 0) (fun a b => rfl)]
  have : (fun i : Nat => ((oft p i : Nat) : Int) == 0) = fun i => oft p i == 0 := by
    funext i
    exact cast_beq (oft p i) 0
  simp only [Option.bind_some, this]
theorem Sparks_eq {n : Nat} (p : Pulse) (hs : p.Times.length ≤ 40) (hf : valid p = true → p.Times.length ≤ 14) (hn : 15000 ≤ n) : pulses_Sparks n p = some (sparksR p) := by
  unfold pulses_Sparks sparksR
  rw [pulses_sel p hs hf hn _ (fun a b => a == b) (fun a b => rfl)]
  simp only [Option.bind_some, cast_beq]
theorem real_len (p : Pulse) : (realR p).1.length ≤ p.Times.length := by
  unfold realR
  split
  · simp
  · have := List.length_filter_le (fun i => oft p i == 0) (spots p)
    simp only [ints', List.length_map]
    simp [spots] at this ⊢; exact this
theorem sparks_len (p : Pulse) : (sparksR p).1.length ≤ p.Times.length := by
  unfold sparksR
  split
  · simp
  · have := List.length_filter_le (fun i => oft p i == (goodP p p.Sparks.toNat).length) (spots p)
    simp only [ints', List.length_map]
    simp [spots] at this ⊢; exact this
end Go.Law
