/-
  The abstract machine: slices whose cells may be written to, at some place among the blocks.
  Conditions: none; it speaks of any program.
-/
import Derived.Test.YtchhkifidbkjcaaAmOx
import Derived.Test.YtchhkifidbkjcaaAmSf
set_option linter.all false
namespace Go.AM
open Go Go.RowKit
section
variable {P:Program} {N:Nat} {l:List (Nat×AV)} {H:zaa} {g:Nat} {lim:Option Nat} {g0 i:Nat} {ops:Array Oper} {K:Fr->zaa->Nat->Prop} {r:List Oper} {d:Nat} {ty:TypeId} {pos:String} {after:Array Edge}
 {O:Nat->Prop} {H0:zaa} {L L':BL} {b:Nat}
theorem zpC {α:Type} {t:TypeId} {x y:Operand} {j k n:Nat} {xs:List α} {z:Int} {u:α} (hd:d<N) (hx:evL N l x=.ms j 0 k n n) (hn:n=xs.length) (hy:evL N l y=.v (.int .i64 z)) (hk:zaF P t=some k) (hu:idx xs z=some u)
  (h:zaL P N lim g0 ops K (i+1) r (Fr.of ((d,.ptr j (0+z.toNat*k))::l)) H g):zaL P N lim g0 ops K i (⟨some d,.indexAddr t x y,ty,pos,after,none⟩::r) (Fr.of l) H g:=by
 subst hn
 have h0:=(zeO hu).1
 have hlt:=zmv hu
 refine za3 (wr:=none) hd rfl (by cases lim<;>rfl) ?_ h
 simp only [zat,hx,hy,zfM,if_pos h0,Option.bind_some]
 rw [if_pos ⟨hk,hlt⟩]
end
end Go.AM
