/-
  The abstract machine: a slice of slices of its own, that are appended to in place.
  Conditions: none; it speaks of any program.
-/
import Derived.Test.YtenogpmlhpcibaaAmSk
set_option linter.all false
namespace Go.AM
open Go Go.RowKit
section
variable {α:Type} (f:α->List AV) (k:Nat) (e:TypeId)
def zno (rs:List Nat) (ys:List (List α)):List AV:=List.zipWith (fun r xs=>AV.sl (.id r) k (xs.map f)) rs ys
def ztw (rs:List Nat) (ys:List (List α)):BL:=List.zipWith (fun r xs=>(r,Blk.row e xs.length)) rs ys
def znp (b m:Nat) (rs:List Nat) (ys:List (List α)):BL:=if rs.length=ys.length/\ys.length=m/\0<m then (b,.cells (zno f k rs ys))::ztw e rs ys else [(b,.ice),(b,.ice)]
def zwj (b m:Nat) (rs:List Nat) (ys:List (List α)):BL:=if rs.length=ys.length then znp f k e b m rs ys else if rs.length+1=ys.length/\ys.length=m/\ys.getLast?.map List.isEmpty=some true then (b,.cells (zno f k rs ys++[.sl .nil 0 []]))::ztw e rs ys else [(b,.ice),(b,.ice)]
def zwk (b m:Nat) (rs:List Nat) (ys ys':List (List α)):BL:=if rs.length=ys.length/\ys'.length=ys.length/\ys.length=m/\0<m then (b,.cells (zno f k rs ys))::ztw e rs ys' else [(b,.ice),(b,.ice)]
end
section
variable {α:Type} {f:α->List AV} {k:Nat} {e:TypeId} {O:Nat->Prop} {H0 H:zac} {Lp:BL} {b bd m:Nat} {rs:List Nat} {ys ys':List (List α)}
theorem zub (hS:St O H0 (Lp++[(b,.ice),(b,.ice)]) H bd):False:=by
 have:=hS.nd
 rw [List.map_append,List.nodup_append] at this
 simp at this
theorem St.rl (hS:St O H0 (Lp++znp f k e b m rs ys) H bd):rs.length=ys.length/\ys.length=m/\0<m:=by
 unfold znp at hS
 split at hS
 ·assumption
 ·exact (zub hS).elim
theorem St.ra (hS:St O H0 (Lp++zwk f k e b m rs ys ys') H bd):rs.length=ys.length/\ys'.length=ys.length/\ys.length=m/\0<m:=by
 unfold zwk at hS
 split at hS
 ·assumption
 ·exact (zub hS).elim
theorem ztx (h:rs.length=ys.length/\ys.length=m/\0<m):znp f k e b m rs ys=(b,.cells (zno f k rs ys))::ztw e rs ys:=by unfold znp;rw [if_pos h]
theorem St.toP (hS:St O H0 (Lp++znp f k e b m rs ys) H bd):St O H0 (Lp++zwj f k e b m rs ys) H bd:=by
 have h:=hS.rl
 unfold zwj
 rw [if_pos h.1]
 exact hS
theorem St.bR (hS:St O H0 (Lp++znp f k e b m rs ys) H bd):b<bd:=by
 have h:=hS.rl
 rw [ztx h] at hS
 exact (hS.has (b,.cells (zno f k rs ys)) (by simp)).2.1
end
section
variable {P:Program} {N:Nat} {l:List (Nat×AV)} {H:zac} {g:Nat} {lim:Option Nat} {g0 i:Nat} {ops:Array Oper} {K:Fr->zac->Nat->Prop} {r:List Oper} {d:Nat} {ty:TypeId} {pos:String} {after:Array Edge}
 {O:Nat->Prop} {H0:zac} {Lp:BL} {b bd k m:Nat} {e:TypeId} {α:Type} {f:α->List AV} {rs:List Nat} {ys ys':List (List α)}
theorem Ok.rr {bd':Nat} {H':zac} (hS:St O H0 (Lp++znp f k e b m rs ys) H' bd') (hb:bd'<=g0):Ok (some g0) ops i b:=.lt (Nat.lt_of_lt_of_le hS.bR hb)
end
section
variable {P:Program} {N:Nat} {Q:Exit->Fr->zac->Nat->Prop} {l:List (Nat×AV)} {H:zac} {g:Nat} {cd:Code} {O:Nat->Prop} {H0:zac} {Lp:BL} {b bd k m:Nat} {e:TypeId} {α:Type} {f:α->List AV} {rs:List Nat} {ys:List (List α)}
end
end Go.AM
