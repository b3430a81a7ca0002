/-
  The rows: arguments of any shape, and the contract that a row asks for.
  Conditions: none; it speaks of any program.
-/
import Derived.Test.YtneghcnkcfblmaaAmT
import Derived.RowKit3
set_option linter.all false
namespace Go.AM
open Go Go.RowKit Go.WideShapes Go.ChangeShapes
section
variable {T : Type} {enc : TypeId × Value → T} {P : Program}
end
end Go.AM
