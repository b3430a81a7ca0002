/-
  Plain laws about the functions of pulses: Lists and Read.
  Conditions: none.
-/
import Derived.Test.YtekplngjaddccaaPuS
set_option linter.all false
namespace Go.Law
open Go Go.AM

end Go.Law
