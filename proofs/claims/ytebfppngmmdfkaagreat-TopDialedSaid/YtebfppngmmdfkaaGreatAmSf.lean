/-
  The abstract machine: fields of the elements of a slice whose cells may be written to.
  Conditions: none; it speaks of any program.
-/
import Derived.Test.YtebfppngmmdfkaaGreatAmZ
set_option linter.all false
namespace Go.AM
open Go Go.RowKit
theorem zns {α:Type} {f:α->List AV} {k:Nat} (hk:∀a,(f a).length=k) {q:Nat}:∀(xs:List α) (n:Nat) (u:α),xs[n]?=some u->q<k->((xs.map f).flatten)[n*k+q]?=(f u)[q]?
 | [],n,u,h,_=>by simp at h
 | x::xs,0,u,h,hq=>by
  simp at h
  subst h
  simp only [List.map_cons,List.flatten_cons,Nat.zero_mul,Nat.zero_add]
  rw [List.getElem?_append_left (by rw [hk];exact hq)]
 | x::xs,n+1,u,h,hq=>by
  have:=zns hk xs n u (by simpa using h) hq
  simp only [List.map_cons,List.flatten_cons]
  rw [List.getElem?_append_right (by rw [hk,Nat.succ_mul];omega),←this]
  congr 1
  rw [hk,Nat.succ_mul]
  omega
theorem znt {α:Type} {f:α->List AV} {k:Nat} (hk:∀a,(f a).length=k):∀xs:List α,(xs.map f).flatten.length=xs.length*k
 | []=>by simp
 | x::xs=>by
  rw [List.map_cons,List.flatten_cons,List.length_append,znt hk xs,hk,List.length_cons,Nat.succ_mul]
  omega
section
variable {P:Program} {N:Nat} {l:List (Nat×AV)} {H:zab} {g:Nat} {lim:Option Nat} {g0 i:Nat} {ops:Array Oper} {K:Fr->zab->Nat->Prop} {r:List Oper} {d:Nat} {ty:TypeId} {pos:String} {after:Array Edge}
 {O:Nat->Prop} {H0:zab} {L Lp:List (Nat×Blk)} {b:Nat}
theorem zus {α:Type} {xs:List α} {z:Int} {u:α} (hu:idx xs z=some u):xs[z.toNat]?=some u:=by
 unfold idx at hu
 split at hu
 ·exact hu
 ·cases hu
end
end Go.AM
