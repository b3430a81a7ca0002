/-
  Plain laws about the functions of pulses: Asked, Real and Sparks.
  Conditions: none.
-/
import Derived.Test.YtekplngjaddccaaPuU
set_option linter.all false
namespace Go.Law
open Go Go.AM

/-- The least and the greatest. -/
def lo (l : List Int) : Int := l.foldl min 24
def hi (l : List Int) : Int := l.foldl max 0
end Go.Law
