/-
  Plain laws about the functions of pulses: clean pulses, as specified.
  Conditions: none.
-/
import Derived.Test.YtekplngjaddccaaPuF
set_option linter.all false
namespace Go.Law
open Go Go.AM

/-- Pulses of one group behind one at y: how many, the last one's time, and what is behind. -/
def run (p : Pulse) : Int → List Int → Nat × Int × List Int
  | y, [] => (0, y, [])
  | y, x :: l => if sameD p (x - y) then ((run p x l).1 + 1, (run p x l).2) else (0, y, x :: l)
end Go.Law
