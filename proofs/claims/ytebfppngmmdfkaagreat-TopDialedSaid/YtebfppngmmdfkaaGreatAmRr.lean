/-
  The abstract machine: a slice of slices of its own, that are appended to in place.
  Conditions: none; it speaks of any program.
-/
import Derived.Test.YtebfppngmmdfkaaGreatAmSk
set_option linter.all false
namespace Go.AM
open Go Go.RowKit
section
variable {α:Type} (f:α->List AV) (k:Nat) (e:TypeId)
def zrr (rs:List Nat) (ys:List (List α)):List AV:=List.zipWith (fun r xs=>AV.sl (.id r) k (xs.map f)) rs ys
def zup (rs:List Nat) (ys:List (List α)):BL:=List.zipWith (fun r xs=>(r,Blk.row e xs.length)) rs ys
def zsY (b m:Nat) (rs:List Nat) (ys:List (List α)):BL:=if rs.length=ys.length/\ys.length=m/\0<m then (b,.cells (zrr f k rs ys))::zup e rs ys else [(b,.ice),(b,.ice)]
def zvq (b m:Nat) (rs:List Nat) (ys:List (List α)):BL:=if rs.length=ys.length then zsY f k e b m rs ys else if rs.length+1=ys.length/\ys.length=m/\ys.getLast?.map List.isEmpty=some true then (b,.cells (zrr f k rs ys++[.sl .nil 0 []]))::zup e rs ys else [(b,.ice),(b,.ice)]
def zvr (b m:Nat) (rs:List Nat) (ys ys':List (List α)):BL:=if rs.length=ys.length/\ys'.length=ys.length/\ys.length=m/\0<m then (b,.cells (zrr f k rs ys))::zup e rs ys' else [(b,.ice),(b,.ice)]
end
section
variable {α:Type} {f:α->List AV} {k:Nat} {e:TypeId} {O:Nat->Prop} {H0 H:zab} {Lp:BL} {b bd m:Nat} {rs:List Nat} {ys ys':List (List α)}
theorem ztN (hS:St O H0 (Lp++[(b,.ice),(b,.ice)]) H bd):False:=by
 have:=hS.nd
 rw [List.map_append,List.nodup_append] at this
 simp at this
theorem St.rl (hS:St O H0 (Lp++zsY f k e b m rs ys) H bd):rs.length=ys.length/\ys.length=m/\0<m:=by
 unfold zsY at hS
 split at hS
 ·assumption
 ·exact (ztN hS).elim
theorem St.ra (hS:St O H0 (Lp++zvr f k e b m rs ys ys') H bd):rs.length=ys.length/\ys'.length=ys.length/\ys.length=m/\0<m:=by
 unfold zvr at hS
 split at hS
 ·assumption
 ·exact (ztN hS).elim
theorem St.toP (hS:St O H0 (Lp++zsY f k e b m rs ys) H bd):St O H0 (Lp++zvq f k e b m rs ys) H bd:=by
 have h:=hS.rl
 unfold zvq
 rw [if_pos h.1]
 exact hS
end
section
variable {P:Program} {N:Nat} {l:List (Nat×AV)} {H:zab} {g:Nat} {lim:Option Nat} {g0 i:Nat} {ops:Array Oper} {K:Fr->zab->Nat->Prop} {r:List Oper} {d:Nat} {ty:TypeId} {pos:String} {after:Array Edge}
 {O:Nat->Prop} {H0:zab} {Lp:BL} {b bd k m:Nat} {e:TypeId} {α:Type} {f:α->List AV} {rs:List Nat} {ys ys':List (List α)}
end
section
variable {P:Program} {N:Nat} {Q:Exit->Fr->zab->Nat->Prop} {l:List (Nat×AV)} {H:zab} {g:Nat} {cd:Code} {O:Nat->Prop} {H0:zab} {Lp:BL} {b bd k m:Nat} {e:TypeId} {α:Type} {f:α->List AV} {rs:List Nat} {ys:List (List α)}
end
end Go.AM
