/-
  Plain laws about the functions of pulses: the sets of the specification.
  Conditions: none.
-/
import Derived.Test.YtekplngjaddccaaPuK
set_option linter.all false
namespace Go.Law
open Go Go.AM

def sgo (f : List Nat → List (List Nat)) : List Nat → List (List Nat)
  | [] => []
  | i :: ps => (f ps).map (i :: ·) ++ sgo f ps
/-- All rising lists of at most so many of these positions, as the specification lists them. -/
def sub : Nat → List Nat → List (List Nat)
  | 0, _ => [[]]
  | k + 1, ps => [] :: sgo (sub k) ps
end Go.Law
