/-
  The abstract machine: queues within calls of which the outcome is open.
  Conditions: none; it speaks of any program.
-/
import Derived.Test.YtebfppngmmdfkaaGreatAmKs
import Derived.Test.YtebfppngmmdfkaaGreatPlA
set_option linter.all false
namespace Go.AM
open Go Go.RowKit
section
variable {P:Program} {N:Nat} {l:List (Nat×AV)} {H:zab} {g:Nat} {lim:Option Nat} {g0 i:Nat} {ops:Array Oper} {K:Fr->zab->Nat->Prop} {r:List Oper} {d:Nat} {ty:TypeId} {pos:String} {after:Array Edge}
 {O:Nat->Prop} {H0:zab} {L:BL} {b:Nat}
end
section
variable {P:Program} {N:Nat} {l:List (Nat×AV)} {H:zab} {g:Nat} {g0 i:Nat} {ops:Array Oper} {K:Fr->zab->Nat->Prop} {r:List Oper} {d:Nat} {ty:TypeId} {pos:String} {after:Array Edge}
end
section
variable {κ ν:Type} [DecidableEq κ]
end
section
variable {P:Program} {N:Nat} {l:List (Nat×AV)} {H:zab} {g:Nat} {lim:Option Nat} {g0 i:Nat} {ops:Array Oper} {K:Fr->zab->Nat->Prop} {r:List Oper} {d:Nat} {ty:TypeId} {pos:String} {after:Array Edge}
 {O:Nat->Prop} {H0:zab} {L:BL} {b:Nat}
end
section
variable {P:Program} {N:Nat} {l:List (Nat×AV)} {H:zab} {g:Nat} {lim:Option Nat} {g0 i:Nat} {ops:Array Oper} {K:Fr->zab->Nat->Prop} {r:List Oper} {d:Nat} {ty:TypeId} {pos:String} {after:Array Edge}
 {O:Nat->Prop} {H0:zab} {L:BL} {b:Nat}
end
structure KeptK (H H1:zab):Prop where
 cel:∀i,H.cel i->H1.cel i
 row:∀i e n,H i=some (.row e n)->∃n',H1 i=some (.row e n')
 obj:∀i k p,H i=some (.obj k p)->∃p',H1 i=some (.obj k p')
theorem zxr.le {P:Program} {f:FuncId} {as bs:List AV} {M:BL} {T:Nat->AV->BL->Prop} (h:zxr P f as M T) (hl:LeL as bs):zxr P f bs M T:=fun H g hf hh =>
 ⟨(h H g hf hh).1,(h H g hf hh).2.1,fun G w vs hp hv=>(h H g hf hh).2.2 G w vs hp (hv.le hl)⟩
end Go.AM
