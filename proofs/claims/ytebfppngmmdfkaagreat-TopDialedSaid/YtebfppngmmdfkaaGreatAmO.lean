/-
  The abstract machine: functions that return a new slice; comparisons with nil.
  Conditions: none; it speaks of any program.
-/
import Derived.Test.YtebfppngmmdfkaaGreatAmN
set_option linter.all false
namespace Go.AM
open Go Go.RowKit
section
variable {P:Program}
end
section
variable {P:Program} {N:Nat} {l:List (Nat×AV)} {H:zab} {g:Nat} {lim:Option Nat} {g0 i:Nat} {ops:Array Oper} {K:Fr->zab->Nat->Prop} {r:List Oper} {d:Nat} {op:Op} {ty:TypeId} {pos:String} {after:Array Edge}
 {O:Nat->Prop} {H0:zab} {L:List (Nat×Blk)} {b:Nat}
theorem zkr.le {k:FuncId} {as bs:List AV} {e k':Nat} {es:List (List AV)} (h:zkr P k as e k' es) (hl:LeL as bs):zkr P k bs e k' es :=
 ⟨h.1,fun G H g new w vs hf hn hp hv=>h.2 G H g new w vs hf hn hp (hv.le hl)⟩
end
end Go.AM
