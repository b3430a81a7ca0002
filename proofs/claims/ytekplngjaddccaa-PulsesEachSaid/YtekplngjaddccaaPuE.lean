/-
  Plain laws about the functions of pulses: the law PulsesWrite.
  Conditions: none.
-/
import Derived.Test.YtekplngjaddccaaPuD
set_option linter.all false
namespace Go.Law
open Go Go.AM

end Go.Law
