/-
  The abstract machine: ranges over functions of two values, and functions that may be nil.
  Conditions: none; it speaks of any program.
-/
import Derived.Test.YtchhkifidbkjcaaAmLw
set_option linter.all false
namespace Go.AM
open Go Go.RowKit
end Go.AM
