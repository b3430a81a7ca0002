/-
  Plain laws about the functions of pulses: writing, as specified; the law PulsesWrite.
  Conditions: none.
-/
import Derived.Test.YtekplngjaddccaaPuC
set_option linter.all false
namespace Go.Law
open Go Go.AM

end Go.Law
