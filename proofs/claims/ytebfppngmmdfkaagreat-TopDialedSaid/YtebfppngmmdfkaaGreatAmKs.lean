/-
  The abstract machine: the keys of a map, sorted.
  Conditions: none; it speaks of any program.
-/
import Derived.Test.YtebfppngmmdfkaaGreatAmQu
import Derived.Test.YtebfppngmmdfkaaGreatAmRr
import Derived.Test.YtebfppngmmdfkaaGreatAmSd
import Derived.Maps.Range
import Derived.Lib.SlKeysI
set_option linter.all false
namespace Go.AM
open Go Go.RowKit
section
variable {ν:Type} {cv:ν->Value}
end
section
variable {P:Program} {N:Nat} {l:List (Nat×AV)} {H:zab} {g:Nat} {lim:Option Nat} {g0 i:Nat} {ops:Array Oper} {K:Fr->zab->Nat->Prop} {r:List Oper} {d:Nat} {ty:TypeId} {pos:String} {after:Array Edge}
 {O:Nat->Prop} {H0:zab} {L:BL} {b:Nat} {ν:Type} {cv:ν->Value}
end
end Go.AM
