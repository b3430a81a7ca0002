/-
  The abstract machine: a call that leaves some elements of a slice out.
  Conditions: none; it speaks of any program.
-/
import Derived.Test.YtebfppngmmdfkaaGreatAmX
set_option linter.all false
namespace Go.AM
open Go Go.RowKit
section
variable {P:Program} {N:Nat} {l:List (Nat×AV)} {H:zab} {g:Nat} {lim:Option Nat} {g0 i:Nat} {ops:Array Oper} {K:Fr->zab->Nat->Prop} {r:List Oper} {d:Nat} {ty:TypeId} {pos:String} {after:Array Edge}
 {O:Nat->Prop} {H0:zab} {L Lp:List (Nat×Blk)} {b:Nat}
end
end Go.AM
