/-
  Plain laws about the functions of pulses: the different lists.
  Conditions: none.
-/
import Derived.Test.YtekplngjaddccaaPuR
set_option linter.all false
namespace Go.Law
open Go Go.AM

end Go.Law
