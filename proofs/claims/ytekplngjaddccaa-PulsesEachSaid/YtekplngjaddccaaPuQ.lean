/-
  Plain laws about the functions of pulses: Many.
  Conditions: none.
-/
import Derived.Test.YtekplngjaddccaaPuP
set_option linter.all false
namespace Go.Law
open Go Go.AM

/-- What open answers: the readings of the code. -/
def openR (p : Pulse) : List Reading_ × Int :=
  if valid p = true then (if goodP p p.Sparks.toNat = [] then ([], 3) else ((goodP p p.Sparks.toNat).map fun is => (⟨((bits 0 is : Nat) : Int), listOf p is⟩ : Reading_), 0)) else ([], 130)
theorem readsTo_valid {p : Pulse} (hv : valid p = true) : readsTo p 0 (p.Sparks + 1).toNat = (goodP p p.Sparks.toNat).map fun is => (⟨((bits 0 is : Nat) : Int), listOf p is⟩ : Reading_) := by
  obtain ⟨v1, v2, v3, v4, v5, v6, v7, v8, v9⟩ := valid_iff hv
  rw [show (p.Sparks + 1).toNat = p.Sparks.toNat + 1 by omega, readsTo_good]
theorem open_any {n : Nat} (p : Pulse) (hs : p.Times.length ≤ 1000) (hn : 1100 ≤ n) : ∃ s'', pulses_open n (fun (x0 : Train_) (_ : Unit) => (pulses_anything x0).map fun y => (y, ())) p () = some (openR p, s'') := by
  obtain ⟨s'', h⟩ := open_eq (n := n) p hs hn (fun (x0 : Train_) (_ : Unit) => (pulses_anything x0).map fun y => (y, ())) () true () (fun _ => rfl)
  refine ⟨s'', ?_⟩
  rw [h]
  unfold openR
  cases hv : valid p with
  | false => rfl
  | true =>
    simp only [if_true, readsTo_valid hv, List.map_eq_nil_iff]
end Go.Law
