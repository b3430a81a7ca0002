/-
  Plain laws about the functions of pulses: the sets of the specification.
  Conditions: none.
-/
import Derived.Test.YtekplngjaddccaaPuK
set_option linter.all false
namespace Go.Law
open Go Go.AM

def sgo (f : List Nat → List (List Nat)) : List Nat → List (List Nat)
  | [] => []
  | i :: ps => (f ps).map (i :: ·) ++ sgo f ps
/-- All rising lists of at most so many of these positions, as the specification lists them. -/
def sub : Nat → List Nat → List (List Nat)
  | 0, _ => [[]]
  | k + 1, ps => [] :: sgo (sub k) ps
/-- All rising lists of at most so many, as the code lists them. -/
def cmbs (k : Nat) (ps : List Nat) : List (List Nat) := (List.range (k + 1)).flatMap fun j => cmb j ps
theorem sgo_perm {f g : List Nat → List (List Nat)} (h : ∀ ps, (f ps).Perm (g ps)) : ∀ ps, (sgo f ps).Perm (sgo g ps)
  | [] => .refl _
  | i :: ps => ((h ps).map _).append (sgo_perm h ps)
theorem flat_app {α β : Type} (f g : α → List β) : ∀ L : List α, (L.flatMap f ++ L.flatMap g).Perm (L.flatMap fun x => f x ++ g x)
  | [] => .refl _
  | x :: L => by
    simp only [List.flatMap_cons, List.append_assoc]
    refine List.Perm.append_left _ ?_
    exact (List.perm_append_comm_assoc (L.flatMap f) (g x) (L.flatMap g)).trans (List.Perm.append_left _ (flat_app f g L))
theorem sgo_flat (L : List Nat) : ∀ ps, (sgo (fun ps => L.flatMap fun j => cmb j ps) ps).Perm (L.flatMap fun j => cmb (j + 1) ps)
  | [] => by
    simp only [sgo]
    have : (L.flatMap fun j => cmb (j + 1) ([] : List Nat)) = [] := by simp [cmb]
    rw [this]
  | i :: ps => by
    simp only [sgo, cmb]
    have h := sgo_flat L ps
    refine ((List.Perm.refl _).append h).trans ?_
    rw [List.map_flatMap]
    exact flat_app _ _ L
theorem sub_perm : ∀ (k : Nat) (ps : List Nat), (sub k ps).Perm (cmbs k ps)
  | 0, ps => by simp [sub, cmbs, cmb]
  | k + 1, ps => by
    have h1 := sgo_perm (fun ps => sub_perm k ps) ps
    have h2 := sgo_flat (List.range (k + 1)) ps
    simp only [sub]
    unfold cmbs
    rw [List.range_succ_eq_map]
    simp only [List.flatMap_cons, cmb, List.singleton_append, List.flatMap_map]
    exact (h1.trans h2).cons _
theorem flat_len (m K : Nat) (ps : List Nat) (hm : ps.length ≤ m) : ∀ (k : Nat), k ≤ K + 1 → ((List.range k).flatMap fun j => cmb j ps).length ≤ k * (m + 1) ^ K
  | 0, _ => by simp
  | k + 1, hk => by
    have h := flat_len m K ps hm k (by omega)
    have h1 := cmb_len k ps
    have h2 : (ps.length + 1) ^ k ≤ (m + 1) ^ k := Nat.pow_le_pow_left (by omega) k
    have h3 : (m + 1) ^ k ≤ (m + 1) ^ K := Nat.pow_le_pow_right (by omega) (by omega)
    rw [List.range_succ, List.flatMap_append, List.length_append, Nat.add_mul]
    simp only [List.flatMap_cons, List.flatMap_nil, List.append_nil]
    omega
def ints' (is : List Nat) : List Int := List.map (fun (i : Nat) => (i : Int)) is
end Go.Law
