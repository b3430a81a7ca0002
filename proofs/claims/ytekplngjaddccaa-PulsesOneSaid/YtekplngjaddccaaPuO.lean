/-
  Plain laws about the functions of pulses: both lists of readings come from the same places.
  Conditions: none.
-/
import Derived.Test.YtekplngjaddccaaPuN
set_option linter.all false
namespace Go.Law
open Go Go.AM

def spots (p : Pulse) : List Nat := List.range' 0 p.Times.length
end Go.Law
