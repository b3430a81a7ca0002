/-
  Plain laws about the functions of pulses: what the specification knows.
  Conditions: none.
-/
import Derived.Test.YtekplngjaddccaaPuM
set_option linter.all false
namespace Go.Law
open Go Go.AM

def mkR (p : Pulse) (is : List Nat) : Option Reading := (rd p is).map fun l => (⟨ints' is, l⟩ : Reading)
def rReads (p : Pulse) (most : Nat) : List Reading := (sub most (List.range' 0 p.Times.length)).filterMap (mkR p)
theorem sub_short : ∀ (k : Nat) (ps is : List Nat), is ∈ sub k ps → is.length ≤ k
  | 0, ps, is, h => by simp [sub] at h; simp [h]
  | k + 1, ps, is, h => by
    simp only [sub, List.mem_cons] at h
    rcases h with rfl | h
    · simp
    · have : ∀ ps, is ∈ sgo (sub k) ps → is.length ≤ k + 1 := by
        intro ps
        induction ps with
        | nil => intro h; simp [sgo] at h
        | cons i ps ih =>
          intro h
          simp only [sgo, List.mem_append, List.mem_map] at h
          rcases h with ⟨is', h1, rfl⟩ | h
          · have := sub_short k ps is' h1
            simp; omega
          · exact ih h
      exact this ps h
theorem rReads_eq {n : Nat} (p : Pulse) (hv : valid p = true) (hn : 1100 ≤ n) (k : Nat) (hk : k ≤ 3) (hfuel : (sub k (List.range' 0 p.Times.length)).length < n) : ref13_readings n p (k : Int) = some (rReads p k) := by
  obtain ⟨v1, v2, v3, v4, v5, v6, v7, v8, v9⟩ := valid_iff hv
  have htm := rise_mem p.Times none v9
  have h := rsets_eq p.Times.length v8 k n 0 [] hk (by omega) (by omega) (by simp)
  unfold ref13_readings
  rw [show ref13_sets n [] 0 (p.Times.length : Int) (k : Int) = _ from h]
  simp only [Option.bind_some, List.nil_append, Nat.sub_zero]
  have hsub := sub_len (k := k) (ps := List.range' 0 p.Times.length) hk (by simp; omega)
  have hshort := sub_short k (List.range' 0 p.Times.length)
  unfold rReads
  generalize sub k (List.range' 0 p.Times.length) = L at hfuel hsub hshort ⊢
  have key : ∀ (l pre : List (List Nat)) (m : Nat) (out : List Reading), L = pre ++ l → l.length < m → out.length ≤ pre.length →
      ref13_readings_l1 n p (L.map ints') m out (pre.length : Int) = some (out ++ l.filterMap (mkR p)) := by
    intro l
    induction l with
    | nil =>
      intro pre m out he hm ho
      obtain ⟨m, rfl⟩ : ∃ k, m = k + 1 := ⟨m - 1, by omega⟩
      simp only [ref13_readings_l1, ref13_readings_l1_b, ref13_readings_j1]
      rw [if_neg (by simp [he])]
      simp
    | cons is l ih =>
      intro pre m out he hm ho
      simp at hm
      have hl : L.length = pre.length + (l.length + 1) := by simp [he]
      obtain ⟨m, rfl⟩ : ∃ k, m = k + 1 := ⟨m - 1, by omega⟩
      have hi : idx (L.map ints') (pre.length : Int) = some (ints' is) := by
        have := idx_mid (pre.map ints') (ints' is) (l.map ints')
        rw [List.length_map] at this
        rw [he]; simpa using this
      have hsh : (ints' is).length ≤ 1000 := by
        have := hshort is (by rw [he]; simp)
        simp [ints']; omega
      simp only [ref13_readings_l1, ref13_readings_l1_b]
      rw [if_pos (by simp; omega), hi]
      simp only [Option.bind_some]
      rw [rLess_eq p.Times (ints' is) (by omega) hsh (by omega), less_congr (g := fun j => is.contains j) fun j => contains_ints is j]
      simp only [Option.bind_some]
      rw [Clean_eq p hv _ (by have := less_len (fun j => is.contains j) p.Times 0; omega) (fun x hx => htm x (less_mem _ _ _ _ hx)) (by omega)]
      simp only [Option.bind_some, ref13_readings_j2, List.filterMap_cons]
      have hmk : mkR p is = (clean p (less (fun j => is.contains j) 0 p.Times)).map fun l => (⟨ints' is, l⟩ : Reading) := rfl
      rw [hmk]
      have hc : (((pre ++ [is]).length : Nat) : Int) = (pre.length : Int) + 1 := by simp
      cases clean p (less (fun j => is.contains j) 0 p.Times) with
      | none =>
        simp only [toPair, Bool.false_eq_true, if_false, Option.map_none]
        rw [w64_id (by omega) (by omega)]
        have h := ih (pre ++ [is]) m out (by simp [he]) (by omega) (by simp; omega)
        rw [hc] at h
        exact h
      | some q =>
        simp only [toPair, if_true, Option.map_some]
        rw [app_ok (by simp; omega)]
        simp only [Option.bind_some]
        rw [w64_id (by omega) (by omega)]
        have h := ih (pre ++ [is]) m (out ++ [(⟨ints' is, q⟩ : Reading)]) (by simp [he]) (by omega) (by simp; omega)
        rw [hc] at h
        rw [h]
        simp
  exact key L [] n [] rfl hfuel (by simp)
end Go.Law
