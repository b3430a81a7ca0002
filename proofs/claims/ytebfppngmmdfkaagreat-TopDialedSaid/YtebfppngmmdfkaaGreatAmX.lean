/-
  The abstract machine: the rules for slices whose cells may be written to.
  Conditions: none; it speaks of any program.
-/
import Derived.Test.YtebfppngmmdfkaaGreatAmW
set_option linter.all false
namespace Go.AM
open Go Go.RowKit
section
variable {P:Program} {N:Nat} {l:List (Nat×AV)} {H:zab} {g:Nat} {lim:Option Nat} {g0 i:Nat} {ops:Array Oper} {K:Fr->zab->Nat->Prop} {r:List Oper} {d:Nat} {ty:TypeId} {pos:String} {after:Array Edge}
 {O:Nat->Prop} {H0:zab} {L Lp:List (Nat×Blk)} {b:Nat}
theorem St.perm {L':BL} (hS:St O H0 L H b) (h:L'.Perm L):St O H0 L' H b:=⟨hS.old,fun p hp=>hS.has p (h.mem_iff.1 hp),(h.map (·.1)).nodup_iff.2 hS.nd,hS.fr⟩
def zrn (new n:Nat) (es:List (List AV)):BL:=if es.length=n then zui new es else [(new,.ice),(new,.ice)]
theorem St.len {j n:Nat} {es:List (List AV)} (hS:St O H0 (Lp++zrn j n es) H b):es.length=n:=by
 by_cases h:es.length=n
 ·exact h
 ·have:=hS.nd
  rw [List.map_append,List.nodup_append] at this
  have h2:=this.2.1
  unfold zrn at h2
  rw [if_neg h] at h2
  simp at h2
theorem St.thaw {j n:Nat} {es:List (List AV)} (hS:St O H0 (Lp++zrn j n es) H b):St O H0 (Lp++zui j es) H b:=by
 have h:=hS.len
 unfold zrn at hS
 rwa [if_pos h] at hS
theorem Ok.tl {b':Nat} {O:Nat->Prop} {H0 H:zab} {Lp:BL} {ops:Array Oper} {i j n g0:Nat} {xs:List Int} {z u:Int} (hS:St O H0 (Lp++zrn j n (xs.map cI)) H b') (hu:idx xs z=some u) (hb:b'<=g0):Ok (some g0) ops i j:=by
 have hne:xs.map cI≠[]:=fun e=>by
  have:xs=[]:=by simpa using e
  rw [this] at hu
  unfold idx at hu
  split at hu<;>simp at hu
 have hT:=hS.thaw
 unfold zui at hT
 rw [if_neg hne] at hT
 have:=(hT.has (j,.cells (xs.map cI).flatten) (by simp)).2.1
 exact .lt (Nat.lt_of_lt_of_le this hb)
end
section
variable {P:Program} {N:Nat} {Q:Exit->Fr->zab->Nat->Prop} {l:List (Nat×AV)} {H:zab} {g:Nat} {b:Code} {O:Nat->Prop} {H0:zab} {bd:Nat}
end
theorem zpg:∀c,c∈([]:List AV)->Flat c:=fun _ h=>by simp at h
theorem zie {x:Value} {cs:List AV} (t:∀c,c∈cs->Flat c):∀c,c∈AV.v x::cs->Flat c:=fun c hc=>by
 rcases List.mem_cons.1 hc with rfl | hc
 ·exact ⟨_,rfl⟩
 ·exact t c hc
theorem zph {α:Type} {f:α->List AV} {xs:List α} (h:∀x,∀c,c∈f x->Flat c):∀e,e∈xs.map f->∀c,c∈e->Flat c:=fun e he=>by
 obtain ⟨x,_,rfl⟩:=List.mem_map.1 he
 exact h x
theorem Flat.pure {c:AV} (h:Flat c):Pure c:=by obtain ⟨x,rfl⟩:=h;exact .v x
section
variable {P:Program} {N:Nat} {Q:Exit->Fr->zab->Nat->Prop} {l:List (Nat×AV)} {H:zab} {g:Nat} {a b:Code} {O:Nat->Prop} {H0:zab} {bd:Nat}
end
end Go.AM
