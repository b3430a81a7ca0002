/-
  Plain laws about the functions of pulses: the law of One.
  Conditions: none.
-/
import Derived.Test.YtekplngjaddccaaPuX
set_option linter.all false
namespace Go.Law
open Go Go.AM

end Go.Law
