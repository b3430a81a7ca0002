/-
  The abstract machine: a function that returns what names a new map of its own.
  Conditions: none; it speaks of any program.
-/
import Derived.Test.YtebfppngmmdfkaaGreatAmRg
set_option linter.all false
namespace Go.AM
open Go Go.RowKit
def zuo (P:Program) (f:FuncId) (as:List AV) (mk:Nat->AV) (p:Obj->Prop) (k:Nat):Prop:=∀H g,zbB H g->Sat P f as H g (mk (g+k)) (H.set (g+k) (.obj none p)) (g+k+1)
theorem zuo.le {P:Program} {f:FuncId} {as bs:List AV} {mk:Nat->AV} {p:Obj->Prop} {k:Nat} (h:zuo P f as mk p k) (hl:LeL as bs):zuo P f bs mk p k:=fun H g hf =>
 ⟨(h H g hf).1,fun G w vs hp hv=>(h H g hf).2 G w vs hp (hv.le hl)⟩
section
variable {P:Program} {N:Nat} {l:List (Nat×AV)} {H:zab} {g:Nat} {lim:Option Nat} {g0 i:Nat} {ops:Array Oper} {K:Fr->zab->Nat->Prop} {r:List Oper} {d:Nat} {ty:TypeId} {pos:String} {after:Array Edge}
 {O:Nat->Prop} {H0:zab} {L L':List (Nat×Blk)} {b:Nat}
end
end Go.AM
