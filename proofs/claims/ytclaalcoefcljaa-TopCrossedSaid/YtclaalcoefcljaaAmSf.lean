/-
  The abstract machine: fields of the elements of a slice whose cells may be written to.
  Conditions: none; it speaks of any program.
-/
import Derived.Test.YtclaalcoefcljaaAmZ
set_option linter.all false
namespace Go.AM
open Go Go.RowKit
theorem zk6 {α:Type} {f:α->List AV} {k:Nat} (hk:∀a,(f a).length=k) {q:Nat} {v:AV}:∀(xs:List α) (n:Nat) (u u':α),xs[n]?=some u->(f u).set q v=f u'->q<k->((xs.map f).flatten).set (n*k+q) v=((xs.set n u').map f).flatten
 | [],n,u,u',h,_,_=>by simp at h
 | x::xs,0,u,u',h,hu,hq=>by
  simp at h
  subst h
  simp only [List.map_cons,List.flatten_cons,List.set_cons_zero,Nat.zero_mul,Nat.zero_add]
  rw [List.set_append_left _ _ (by rw [hk];exact hq),hu]
 | x::xs,n+1,u,u',h,hu,hq=>by
  have:=zk6 hk xs n u u' (by simpa using h) hu hq
  simp only [List.map_cons,List.flatten_cons,List.set_cons_succ]
  rw [List.set_append_right _ _ (by rw [hk,Nat.succ_mul];omega),←this]
  congr 2
  rw [hk,Nat.succ_mul]
  omega
theorem zk7 {α:Type} {f:α->List AV} {k:Nat} (hk:∀a,(f a).length=k) {q:Nat}:∀(xs:List α) (n:Nat) (u:α),xs[n]?=some u->q<k->((xs.map f).flatten)[n*k+q]?=(f u)[q]?
 | [],n,u,h,_=>by simp at h
 | x::xs,0,u,h,hq=>by
  simp at h
  subst h
  simp only [List.map_cons,List.flatten_cons,Nat.zero_mul,Nat.zero_add]
  rw [List.getElem?_append_left (by rw [hk];exact hq)]
 | x::xs,n+1,u,h,hq=>by
  have:=zk7 hk xs n u (by simpa using h) hq
  simp only [List.map_cons,List.flatten_cons]
  rw [List.getElem?_append_right (by rw [hk,Nat.succ_mul];omega),←this]
  congr 1
  rw [hk,Nat.succ_mul]
  omega
theorem zhL {α:Type} {f:α->List AV} {k:Nat} (hk:∀a,(f a).length=k):∀xs:List α,(xs.map f).flatten.length=xs.length*k
 | []=>by simp
 | x::xs=>by
  rw [List.map_cons,List.flatten_cons,List.length_append,zhL hk xs,hk,List.length_cons,Nat.succ_mul]
  omega
theorem znf (cs:List AV) {m:Nat} (v:AV) (h:m<cs.length):zcJ cs m [v]=cs.set m v:=by
 unfold zcJ
 rw [List.set_eq_take_append_cons_drop,if_pos h]
 simp
section
variable {P:Program} {N:Nat} {l:List (Nat×AV)} {H:zaa} {g:Nat} {lim:Option Nat} {g0 i:Nat} {ops:Array Oper} {K:Fr->zaa->Nat->Prop} {r:List Oper} {d:Nat} {ty:TypeId} {pos:String} {after:Array Edge}
 {O:Nat->Prop} {H0:zaa} {L Lp:List (Nat×Blk)} {b:Nat}
theorem zkl {α:Type} {xs:List α} {z:Int} {u:α} (hu:idx xs z=some u):xs[z.toNat]?=some u:=by
 unfold idx at hu
 split at hu
 ·exact hu
 ·cases hu
theorem St.tailf {α:Type} {f:α->List AV} {j n:Nat} {xs:List α} {z:Int} {u:α} (hS:St O H0 (Lp++zdX j n (xs.map f)) H b) (hu:idx xs z=some u):xs.map f≠[]/\H j=some (.cells (xs.map f).flatten)/\j<b:=by
 have hu':=zkl hu
 have hne:xs.map f≠[]:=fun e=>by
  have:xs=[]:=by simpa using e
  rw [this] at hu'
  simp at hu'
 refine ⟨hne,hS.thaw.tail hne,?_⟩
 have hT:=hS.thaw
 unfold zeJ at hT
 rw [if_neg hne] at hT
 exact (hT.has (j,.cells (xs.map f).flatten) (by simp)).2.1
theorem zoj {α:Type} {f:α->List AV} {k q:Nat} {t:TypeId} {x y:Operand} {j n:Nat} {xs:List α} {z v:Int} {u u':α} (hS:St O H0 (Lp++zdX j n (xs.map f)) H b) (hx:evL N l x=.ptr j (0+z.toNat*k+q)) (hu:idx xs z=some u) (ho:Ok lim ops i j) (hk:∀a,(f a).length=k) (hq:q<k) (hy:evL N l y=.v (.int .i64 v)) (hset:(f u).set q (.v (.int .i64 v))=f u') (hv:zao P t=some 1)
  (h:∀H',St O H0 (Lp++zdX j n ((xs.set z.toNat u').map f)) H' b->zaX P N lim g0 ops K (i+1) r (Fr.of l) H' g):zaX P N lim g0 ops K i (⟨none,.store t x y,ty,pos,after,none⟩::r) (Fr.of l) H g:=by
 obtain ⟨hne,hH,_⟩:=hS.tailf hu
 have hu':=zkl hu
 have hlt:z.toNat<xs.length:=(List.getElem?_eq_some_iff.1 hu').1
 have hlen:(xs.map f).length=n:=hS.len
 have hfl:(xs.map f).flatten.length=xs.length*k:=zhL hk xs
 have hin:z.toNat*k+q<(xs.map f).flatten.length:=by
  rw [hfl]
  have:=Nat.mul_le_mul_right k (show z.toNat+1<=xs.length from hlt)
  rw [Nat.succ_mul] at this
  omega
 refine zlG (v:=.any) (wr:=some (j,.cells (zcJ (xs.map f).flatten (0+z.toNat*k+q) [.v (.int .i64 v)]))) rfl (by
  cases hlim:lim with
  | none=>rfl
  | some q=>simpa [old,hx] using ho q hlim) ?_ ?_
 ·simp only [zaE,hx,hH,hy]
  rw [show cellsOf (.v (.int .i64 v))=some [.v (.int .i64 v)] from rfl]
  simp only [Option.bind_some]
  rw [if_pos ⟨by simpa using hv,by show 0+z.toNat*k+q+1<=_;omega⟩]
 ·rw [znf _ _ (by rw [Nat.zero_add];exact hin),Nat.zero_add,zk6 hk xs _ u u' hu' hset hq]
  refine h _ (St.unthaw (by simpa using hlen) ?_)
  exact hS.thaw.putTail hne (by
   intro e
   have:(xs.set z.toNat u')=[]:=by simpa using e
   have h2:=congrArg List.length this
   rw [List.length_set] at h2
   simp at h2
   rw [h2] at hlt
   simp at hlt)
end
end Go.AM
