/-
  Plain laws about the functions of pulses: Real, Sparks, and the law of Real.
  Conditions: none.
-/
import Derived.Test.YtekplngjaddccaaPuV
set_option linter.all false
namespace Go.Law
open Go Go.AM

theorem spots_nodup (p : Pulse) : (spots p).Nodup := List.nodup_range'
end Go.Law
