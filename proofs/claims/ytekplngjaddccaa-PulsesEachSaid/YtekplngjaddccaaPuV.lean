/-
  Plain laws about the functions of pulses: Asked, Real and Sparks.
  Conditions: none.
-/
import Derived.Test.YtekplngjaddccaaPuU
set_option linter.all false
namespace Go.Law
open Go Go.AM

theorem Count_eq {n : Nat} (a0 : List Int) (x : Int) (hs : a0.length < 1000000) (hn : a0.length < n) : ref13_Count n a0 x = some ((a0.count x : Nat) : Int) := by
  have key : ∀ (l pre : List Int) (m c : Nat), a0 = pre ++ l → l.length < m → c ≤ pre.length → ref13_Count_l1 a0 x m (c : Int) (pre.length : Int) = some (((c + l.count x : Nat)) : Int) := by
    intro l
    induction l with
    | nil =>
      intro pre m c he hm hc
      obtain ⟨m, rfl⟩ : ∃ k, m = k + 1 := ⟨m - 1, by omega⟩
      simp [ref13_Count_l1, ref13_Count_l1_b, ref13_Count_j1, he]
    | cons y l ih =>
      intro pre m c he hm hcl
      simp at hm
      have hl : a0.length = pre.length + (l.length + 1) := by simp [he]
      obtain ⟨m, rfl⟩ : ∃ k, m = k + 1 := ⟨m - 1, by omega⟩
      have hc : (((pre ++ [y]).length : Nat) : Int) = (pre.length : Int) + 1 := by simp
      simp only [ref13_Count_l1, ref13_Count_l1_b, ref13_Count_j2]
      rw [if_pos (by simp; omega), show idx a0 (pre.length : Int) = some y by rw [he, idx_mid]]
      simp only [Option.bind_some]
      rw [w64_id (x := (pre.length : Int) + 1) (by omega) (by omega), w64_id (x := (c : Int) + 1) (by omega) (by omega), List.count_cons]
      by_cases e : y = x
      · subst e
        simp only [beq_self_eq_true, if_true]
        have h := ih (pre ++ [y]) m (c + 1) (by simp [he]) (by omega) (by simp; omega)
        rw [hc] at h
        rw [show ((c : Int) + 1) = ((c + 1 : Nat) : Int) by omega, h]
        congr 2; omega
      · simp only [beq_iff_eq, e, if_false]
        have h := ih (pre ++ [y]) m c (by simp [he]) (by omega) (by simp; omega)
        rw [hc] at h
        rw [h]
        rfl
  have h := key a0 [] n 0 rfl hn (by simp)
  unfold ref13_Count
  rw [show ref13_Count_l1 a0 x n 0 0 = _ from h, Nat.zero_add]
theorem count_int_eq {n : Nat} (a0 : List Int) (x : Int) (hs : a0.length < 1000000) (hn : a0.length < n) :
    pulses_count_int n (fun (x0 : Int) (_ : Unit) => (pulses_Asked_c2 x0 x).map fun y => (y, ())) a0 () = some (((a0.count x : Nat) : Int), ()) := by
  have key : ∀ (l pre : List Int) (m c : Nat), a0 = pre ++ l → l.length < m → c ≤ pre.length → pulses_count_int_l1 a0 (fun (x0 : Int) (_ : Unit) => (pulses_Asked_c2 x0 x).map fun y => (y, ())) m (c : Int) (pre.length : Int) () = some ((((c + l.count x : Nat)) : Int), ()) := by
    intro l
    induction l with
    | nil =>
      intro pre m c he hm hc
      obtain ⟨m, rfl⟩ : ∃ k, m = k + 1 := ⟨m - 1, by omega⟩
      simp [pulses_count_int_l1, pulses_count_int_l1_b, pulses_count_int_j1, he]
    | cons y l ih =>
      intro pre m c he hm hcl
      simp at hm
      have hl : a0.length = pre.length + (l.length + 1) := by simp [he]
      obtain ⟨m, rfl⟩ : ∃ k, m = k + 1 := ⟨m - 1, by omega⟩
      have hc : (((pre ++ [y]).length : Nat) : Int) = (pre.length : Int) + 1 := by simp
      simp only [pulses_count_int_l1, pulses_count_int_l1_b, pulses_count_int_j2]
      rw [if_pos (by simp; omega), show idx a0 (pre.length : Int) = some y by rw [he, idx_mid]]
      simp only [Option.bind_some, pulses_Asked_c2, Option.map_some]
      rw [w64_id (x := (pre.length : Int) + 1) (by omega) (by omega), w64_id (x := (c : Int) + 1) (by omega) (by omega), List.count_cons]
      by_cases e : y = x
      · subst e
        simp only [beq_self_eq_true, if_true]
        have h := ih (pre ++ [y]) m (c + 1) (by simp [he]) (by omega) (by simp; omega)
        rw [hc] at h
        simp only [pulses_Asked_c2, Option.map_some] at h
        rw [show ((c : Int) + 1) = ((c + 1 : Nat) : Int) by omega, h]
        congr 3; omega
      · have e' : (y == x) = false := by simpa using e
        simp only [e', Bool.false_eq_true, if_false]
        have h := ih (pre ++ [y]) m c (by simp [he]) (by omega) (by simp; omega)
        rw [hc] at h
        simp only [pulses_Asked_c2, Option.map_some] at h
        rw [h]
        rfl
  have h := key a0 [] n 0 rfl hn (by simp)
  unfold pulses_count_int
  rw [show pulses_count_int_l1 a0 _ n 0 0 () = _ from h, Nat.zero_add]
/-- The least and the greatest. -/
def lo (l : List Int) : Int := l.foldl min 24
def hi (l : List Int) : Int := l.foldl max 0
theorem Asked_l {n : Nat} (x : Int) (L : List Reading_) (e : Int) (hl : ∀ r, r ∈ L → r.list.length < 1000) (hs : L.length < 1000000) (hn' : 1000 ≤ n) : ∀ (l pre : List Reading_) (m : Nat) (a b : Int), L = pre ++ l → l.length < m →
    pulses_Asked_l1 n x ((L, e), ()) m (pre.length : Int) a b = some ((⟨(l.map fun r => ((r.list.count x : Nat) : Int)).foldl min a, (l.map fun r => ((r.list.count x : Nat) : Int)).foldl max b⟩ : Span), 0) := by
  intro l
  induction l with
  | nil =>
    intro pre m a b he hm
    obtain ⟨m, rfl⟩ : ∃ k, m = k + 1 := ⟨m - 1, by omega⟩
    simp [pulses_Asked_l1, pulses_Asked_l1_b, pulses_Asked_j1, he]
  | cons y l ih =>
    intro pre m a b he hm
    simp at hm
    have hl' : L.length = pre.length + (l.length + 1) := by simp [he]
    obtain ⟨m, rfl⟩ : ∃ k, m = k + 1 := ⟨m - 1, by omega⟩
    have hy := hl y (by simp [he])
    have hc : (((pre ++ [y]).length : Nat) : Int) = (pre.length : Int) + 1 := by simp
    simp only [pulses_Asked_l1, pulses_Asked_l1_b]
    rw [if_pos (by simp; omega), show idx L (pre.length : Int) = some y by rw [he, idx_mid]]
    simp only [Option.bind_some]
    rw [count_int_eq y.list x (by omega) (by omega), w64_id (by omega) (by omega)]
    simp only [Option.bind_some]
    have h := ih (pre ++ [y]) m (min a ((y.list.count x : Nat) : Int)) (max b ((y.list.count x : Nat) : Int)) (by simp [he]) (by omega)
    rw [hc] at h
    rw [h]
    rfl
/-- How often the lists of the readings have a number. -/
def cnts (p : Pulse) (x : Int) : List Int := (goodP p p.Sparks.toNat).map fun is => (((listOf p is).count x : Nat) : Int)
def askR (p : Pulse) (x : Int) : Span × Int :=
  if valid p = true then (if isSel p x = true then (if goodP p p.Sparks.toNat = [] then (⟨0, 0⟩, 3) else (⟨lo (cnts p x), hi (cnts p x)⟩, 0)) else (⟨0, 0⟩, 1)) else (⟨0, 0⟩, 130)
theorem Asked_eq {n : Nat} (p : Pulse) (x : Int) (hs : p.Times.length ≤ 40) (hf : valid p = true → p.Times.length ≤ 14) (hn : 15000 ≤ n) : pulses_Asked n p x = some (askR p x) := by
  obtain ⟨s'', h⟩ := open_eq (n := n) p (by omega) (by omega) (fun (x0 : Train_) (_ : Unit) => (pulses_Asked_c1 x0 x).map fun y => (y, ())) () (isSel p x) () (fun _ => by
    simp [pulses_Asked_c1, pulses_train_isSelection, within_eq, isSel])
  unfold pulses_Asked askR
  rw [h]
  simp only [Option.bind_some]
  cases hv : valid p with
  | false => simp
  | true =>
    obtain ⟨v1, v2, v3, v4, v5, v6, v7, v8, v9⟩ := valid_iff hv
    simp only [if_true]
    cases hx : isSel p x with
    | false => simp
    | true =>
      have hg := good_len (p := p) (by omega) (hf hv)
      simp only [if_true, readsTo_valid hv, List.map_eq_nil_iff]
      by_cases hne : goodP p p.Sparks.toNat = []
      · simp [hne]
      · simp only [hne, if_false, bne_self_eq_false, Bool.false_eq_true]
        have hl := Asked_l (n := n) x ((goodP p p.Sparks.toNat).map fun is => (⟨((bits 0 is : Nat) : Int), listOf p is⟩ : Reading_)) 0 (fun r hr => by
          obtain ⟨is, _, rfl⟩ := List.mem_map.1 hr
          have := listOf_len p is
          simp only
          omega) (by simp; omega) (by omega) _ [] n 24 0 rfl (by simp; omega)
        rw [show pulses_Asked_l1 n x ((_, 0), s'') n 0 24 0 = _ from hl]
        simp only [lo, hi, cnts, List.map_map]
        rfl
end Go.Law
