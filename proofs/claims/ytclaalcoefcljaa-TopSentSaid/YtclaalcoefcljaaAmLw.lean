/-
  The abstract machine: rules for slices whose elements are written to, and that grow.
  Conditions: none; it speaks of any program.
-/
import Derived.Test.YtclaalcoefcljaaAmZ
set_option linter.all false
namespace Go.AM
open Go Go.RowKit
section
variable {P:Program} {N:Nat} {l:List (Nat×AV)} {H:zaa} {g:Nat} {g0 i:Nat} {ops:Array Oper} {K:Fr->zaa->Nat->Prop} {r:List Oper} {d:Nat} {ty:TypeId} {pos:String} {after:Array Edge}
 {O:Nat->Prop} {H0:zaa} {L:List (Nat×Blk)} {b:Nat}
theorem St.ice {j:Nat} {cs:List AV} (hS:St O H0 ((j,.cells cs)::L) H b):St O H0 L (H.set j .ice) b:=by
 have hj:=hS.has (j,.cells cs) (by simp)
 have hnd:=hS.nd
 simp only [List.map_cons,List.nodup_cons] at hnd
 refine ⟨fun k hk=>⟨(hS.old k hk).1,(zaa.set_ne _ _ (show k≠j from fun e=>hj.1 (by subst e;exact hk))).trans (hS.old k hk).2⟩,fun p hp=>?_,hnd.2,fun k hk=>?_⟩
 ·have:=hS.has p (List.mem_cons_of_mem _ hp)
  refine ⟨this.1,this.2.1,?_⟩
  rw [zaa.set_ne _ _ (fun e=>hnd.1 (List.mem_map.2 ⟨p,hp,e⟩))]
  exact this.2.2
 ·rw [zaa.set_ne _ _ (by have:=hj.2.1;omega)]
  exact hS.fr k hk
section
variable {κ:Type} [DecidableEq κ] {kv:κ->Value} {ok:κ->Bool} {lim:Option Nat}
end
end
end Go.AM
