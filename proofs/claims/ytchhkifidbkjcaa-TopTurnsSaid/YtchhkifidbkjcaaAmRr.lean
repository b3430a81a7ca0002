/-
  The abstract machine: a slice of slices of its own, that are appended to in place.
  Conditions: none; it speaks of any program.
-/
import Derived.Test.YtchhkifidbkjcaaAmSk
set_option linter.all false
namespace Go.AM
open Go Go.RowKit
section
variable {α:Type} (f:α->List AV) (k:Nat) (e:TypeId)
def znw (rs:List Nat) (ys:List (List α)):List AV:=List.zipWith (fun r xs=>AV.sl (.id r) k (xs.map f)) rs ys
def ztN (rs:List Nat) (ys:List (List α)):BL:=List.zipWith (fun r xs=>(r,Blk.row e xs.length)) rs ys
def znx (b m:Nat) (rs:List Nat) (ys:List (List α)):BL:=if rs.length=ys.length/\ys.length=m/\0<m then (b,.cells (znw f k rs ys))::ztN e rs ys else [(b,.ice),(b,.ice)]
def zwt (b m:Nat) (rs:List Nat) (ys:List (List α)):BL:=if rs.length=ys.length then znx f k e b m rs ys else if rs.length+1=ys.length/\ys.length=m/\ys.getLast?.map List.isEmpty=some true then (b,.cells (znw f k rs ys++[.sl .nil 0 []]))::ztN e rs ys else [(b,.ice),(b,.ice)]
def zwu (b m:Nat) (rs:List Nat) (ys ys':List (List α)):BL:=if rs.length=ys.length/\ys'.length=ys.length/\ys.length=m/\0<m then (b,.cells (znw f k rs ys))::ztN e rs ys' else [(b,.ice),(b,.ice)]
end
section
variable {α:Type} {f:α->List AV} {k:Nat} {e:TypeId} {O:Nat->Prop} {H0 H:zaa} {Lp:BL} {b bd m:Nat} {rs:List Nat} {ys ys':List (List α)}
theorem zuB (hS:St O H0 (Lp++[(b,.ice),(b,.ice)]) H bd):False:=by
 have:=hS.nd
 rw [List.map_append,List.nodup_append] at this
 simp at this
theorem St.rl (hS:St O H0 (Lp++znx f k e b m rs ys) H bd):rs.length=ys.length/\ys.length=m/\0<m:=by
 unfold znx at hS
 split at hS
 ·assumption
 ·exact (zuB hS).elim
theorem St.ra (hS:St O H0 (Lp++zwu f k e b m rs ys ys') H bd):rs.length=ys.length/\ys'.length=ys.length/\ys.length=m/\0<m:=by
 unfold zwu at hS
 split at hS
 ·assumption
 ·exact (zuB hS).elim
theorem ztO (h:rs.length=ys.length/\ys.length=m/\0<m):znx f k e b m rs ys=(b,.cells (znw f k rs ys))::ztN e rs ys:=by unfold znx;rw [if_pos h]
theorem St.toP (hS:St O H0 (Lp++znx f k e b m rs ys) H bd):St O H0 (Lp++zwt f k e b m rs ys) H bd:=by
 have h:=hS.rl
 unfold zwt
 rw [if_pos h.1]
 exact hS
theorem St.bR (hS:St O H0 (Lp++znx f k e b m rs ys) H bd):b<bd:=by
 have h:=hS.rl
 rw [ztO h] at hS
 exact (hS.has (b,.cells (znw f k rs ys)) (by simp)).2.1
end
section
variable {P:Program} {N:Nat} {l:List (Nat×AV)} {H:zaa} {g:Nat} {lim:Option Nat} {g0 i:Nat} {ops:Array Oper} {K:Fr->zaa->Nat->Prop} {r:List Oper} {d:Nat} {ty:TypeId} {pos:String} {after:Array Edge}
 {O:Nat->Prop} {H0:zaa} {Lp:BL} {b bd k m:Nat} {e:TypeId} {α:Type} {f:α->List AV} {rs:List Nat} {ys ys':List (List α)}
theorem Ok.rr {bd':Nat} {H':zaa} (hS:St O H0 (Lp++znx f k e b m rs ys) H' bd') (hb:bd'<=g0):Ok (some g0) ops i b:=.lt (Nat.lt_of_lt_of_le hS.bR hb)
end
section
variable {P:Program} {N:Nat} {Q:Exit->Fr->zaa->Nat->Prop} {l:List (Nat×AV)} {H:zaa} {g:Nat} {cd:Code} {O:Nat->Prop} {H0:zaa} {Lp:BL} {b bd k m:Nat} {e:TypeId} {α:Type} {f:α->List AV} {rs:List Nat} {ys:List (List α)}
end
end Go.AM
