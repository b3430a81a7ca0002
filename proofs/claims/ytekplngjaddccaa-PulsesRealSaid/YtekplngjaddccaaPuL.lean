/-
  Plain laws about the functions of pulses: the sets of the specification.
  Conditions: none.
-/
import Derived.Test.YtekplngjaddccaaPuK
set_option linter.all false
namespace Go.Law
open Go Go.AM

def sgo (f : List Nat → List (List Nat)) : List Nat → List (List Nat)
  | [] => []
  | i :: ps => (f ps).map (i :: ·) ++ sgo f ps
/-- All rising lists of at most so many of these positions, as the specification lists them. -/
def sub : Nat → List Nat → List (List Nat)
  | 0, _ => [[]]
  | k + 1, ps => [] :: sgo (sub k) ps
/-- All rising lists of at most so many, as the code lists them. -/
def cmbs (k : Nat) (ps : List Nat) : List (List Nat) := (List.range (k + 1)).flatMap fun j => cmb j ps
theorem sgo_perm {f g : List Nat → List (List Nat)} (h : ∀ ps, (f ps).Perm (g ps)) : ∀ ps, (sgo f ps).Perm (sgo g ps)
  | [] => .refl _
  | i :: ps => ((h ps).map _).append (sgo_perm h ps)
theorem flat_app {α β : Type} (f g : α → List β) : ∀ L : List α, (L.flatMap f ++ L.flatMap g).Perm (L.flatMap fun x => f x ++ g x)
  | [] => .refl _
  | x :: L => by
    simp only [List.flatMap_cons, List.append_assoc]
    refine List.Perm.append_left _ ?_
    exact (List.perm_append_comm_assoc (L.flatMap f) (g x) (L.flatMap g)).trans (List.Perm.append_left _ (flat_app f g L))
theorem sgo_flat (L : List Nat) : ∀ ps, (sgo (fun ps => L.flatMap fun j => cmb j ps) ps).Perm (L.flatMap fun j => cmb (j + 1) ps)
  | [] => by
    simp only [sgo]
    have : (L.flatMap fun j => cmb (j + 1) ([] : List Nat)) = [] := by simp [cmb]
    rw [this]
  | i :: ps => by
    simp only [sgo, cmb]
    have h := sgo_flat L ps
    refine ((List.Perm.refl _).append h).trans ?_
    rw [List.map_flatMap]
    exact flat_app _ _ L
theorem sub_perm : ∀ (k : Nat) (ps : List Nat), (sub k ps).Perm (cmbs k ps)
  | 0, ps => by simp [sub, cmbs, cmb]
  | k + 1, ps => by
    have h1 := sgo_perm (fun ps => sub_perm k ps) ps
    have h2 := sgo_flat (List.range (k + 1)) ps
    simp only [sub]
    unfold cmbs
    rw [List.range_succ_eq_map]
    simp only [List.flatMap_cons, cmb, List.singleton_append, List.flatMap_map]
    exact (h1.trans h2).cons _
theorem flat_len (m K : Nat) (ps : List Nat) (hm : ps.length ≤ m) : ∀ (k : Nat), k ≤ K + 1 → ((List.range k).flatMap fun j => cmb j ps).length ≤ k * (m + 1) ^ K
  | 0, _ => by simp
  | k + 1, hk => by
    have h := flat_len m K ps hm k (by omega)
    have h1 := cmb_len k ps
    have h2 : (ps.length + 1) ^ k ≤ (m + 1) ^ k := Nat.pow_le_pow_left (by omega) k
    have h3 : (m + 1) ^ k ≤ (m + 1) ^ K := Nat.pow_le_pow_right (by omega) (by omega)
    rw [List.range_succ, List.flatMap_append, List.length_append, Nat.add_mul]
    simp only [List.flatMap_cons, List.flatMap_nil, List.append_nil]
    omega
theorem sub_len {k : Nat} {ps : List Nat} (hk : k ≤ 3) (hp : ps.length ≤ 24) : (sub k ps).length ≤ 62500 := by
  rw [(sub_perm k ps).length_eq]
  refine Nat.le_trans (flat_len 24 3 ps hp (k + 1) (by omega)) ?_
  have h25 : (24 + 1) ^ 3 = 15625 := by decide
  rw [h25]
  omega
def ints' (is : List Nat) : List Int := List.map (fun (i : Nat) => (i : Int)) is
theorem rsets_eq (many : Nat) (hmany : many ≤ 24) : ∀ (k n a : Nat) (first : List Int), k ≤ 3 → k + 50 ≤ n → a ≤ many → first.length ≤ 100 - k →
    ref13_sets n first (a : Int) (many : Int) (k : Int) = some ((sub k (List.range' a (many - a))).map fun is => first ++ ints' is) := by
  intro k
  induction k with
  | zero =>
    intro n a first hk hn ha hf
    obtain ⟨n, rfl⟩ : ∃ j, n = j + 2 := ⟨n - 2, by omega⟩
    simp only [ref13_sets, ref13_sets_b, ref13_sets_l1, ref13_sets_l1_b, ref13_sets_j2, ref13_sets_j1, sub, ints']
    split <;> simp
  | succ k ih =>
    intro n a first hk hn ha hf
    obtain ⟨n, rfl⟩ : ∃ j, n = j + 1 := ⟨n - 1, by omega⟩
    simp only [ref13_sets, ref13_sets_b]
    have key : ∀ (d m a : Nat) (out : List (List Int)), d = many - a → a ≤ many → d < m → out.length + (sgo (sub k) (List.range' a d)).length ≤ 1000000 →
        ref13_sets_l1 (ref13_sets n) first (many : Int) ((k + 1 : Nat) : Int) m out (a : Int) = some (out ++ (sgo (sub k) (List.range' a d)).map fun is => first ++ ints' is) := by
      intro d
      induction d with
      | zero =>
        intro m a out hd ha' hm hlen
        obtain ⟨m, rfl⟩ : ∃ j, m = j + 1 := ⟨m - 1, by omega⟩
        simp only [ref13_sets_l1, ref13_sets_l1_b, ref13_sets_j2, ref13_sets_j1]
        rw [if_neg (by simp; omega)]
        simp [sgo]
      | succ d ihd =>
        intro m a out hd ha' hm hlen
        obtain ⟨m, rfl⟩ : ∃ j, m = j + 1 := ⟨m - 1, by omega⟩
        rw [List.range'_succ] at hlen ⊢
        simp only [sgo, List.length_append, List.length_map] at hlen
        simp only [ref13_sets_l1, ref13_sets_l1_b, ref13_sets_j2]
        rw [if_pos (by simp <;> omega), if_pos (by simp <;> omega), app_ok (by simp <;> omega)]
        simp only [Option.bind_some, List.nil_append]
        rw [app_ok (by simp; omega)]
        simp only [Option.bind_some]
        rw [w64_id (x := (a : Int) + 1) (by omega) (by omega), w64_id (x := ((k + 1 : Nat) : Int) - 1) (by omega) (by omega)]
        have h := ih n (a + 1) (first ++ [(a : Int)]) (by omega) (by omega) (by omega) (by simp; omega)
        rw [show (((k + 1 : Nat) : Int) - 1) = (k : Int) by omega, show ((a : Int) + 1) = ((a + 1 : Nat) : Int) by omega, h, show many - (a + 1) = d by omega]
        simp only [Option.bind_some]
        rw [app_ok (by simp; omega)]
        simp only [Option.bind_some]
        rw [ihd m (a + 1) _ (by omega) (by omega) (by omega) (by simp; omega)]
        simp [sgo, ints']
    have hl := sub_len (k := k + 1) (ps := List.range' a (many - a)) (by omega) (by simp; omega)
    simp only [sub, List.length_cons] at hl
    rw [key (many - a) n a [first] rfl ha (by omega) (by simp; omega)]
    simp [sub, ints']
end Go.Law
