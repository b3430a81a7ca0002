/-
  The abstract machine: queues, and calls of which it is open which blocks they leave.
  Conditions: none; it speaks of any program.
-/
import Derived.Test.YtebfppngmmdfkaaGreatAmMv
set_option linter.all false
namespace Go.AM
open Go Go.RowKit
def zxr (P:Program) (f:FuncId) (as:List AV) (M:BL) (T:Nat->AV->BL->Prop):Prop :=
 ∀H g,zbB H g->Has H M->ztW P f as H g fun v H' g'=>∃M',T g v M'/\(∀i,i<g->i∉ids M->H' i=H i)/\Has H' M'/\zbB H' g'/\g<=g'/\(ids M').Nodup/\∀i,i∈ids M'->i∈ids M\/g<=i
section
variable {P:Program} {N:Nat} {l:List (Nat×AV)} {H:zab} {g:Nat} {lim:Option Nat} {g0 i:Nat} {ops:Array Oper} {K:Fr->zab->Nat->Prop} {r:List Oper} {d:Nat} {ty:TypeId} {pos:String} {after:Array Edge}
 {O:Nat->Prop} {H0:zab} {L M:BL} {b:Nat}
end
end Go.AM
