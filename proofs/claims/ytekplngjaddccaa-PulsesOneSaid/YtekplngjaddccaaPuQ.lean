/-
  Plain laws about the functions of pulses: Many.
  Conditions: none.
-/
import Derived.Test.YtekplngjaddccaaPuP
set_option linter.all false
namespace Go.Law
open Go Go.AM

end Go.Law
