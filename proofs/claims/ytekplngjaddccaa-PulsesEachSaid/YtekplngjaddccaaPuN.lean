/-
  Plain laws about the functions of pulses: what the specification knows.
  Conditions: none.
-/
import Derived.Test.YtekplngjaddccaaPuM
set_option linter.all false
namespace Go.Law
open Go Go.AM

end Go.Law
