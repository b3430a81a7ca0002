/-
  Plain laws about the functions of pulses: equal lists.
  Conditions: none.
-/
import Derived.Test.YtekplngjaddccaaPuQ
set_option linter.all false
namespace Go.Law
open Go Go.AM

end Go.Law
