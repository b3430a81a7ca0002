/-
  Plain laws about the functions of pulses: known, and Many.
  Conditions: none.
-/
import Derived.Test.YtekplngjaddccaaPuO
set_option linter.all false
namespace Go.Law
open Go Go.AM

end Go.Law
