/-
  The abstract machine: the rules for slices whose cells may be written to.
  Conditions: none; it speaks of any program.
-/
import Derived.Test.YtclaalcoefcljaaAmW
set_option linter.all false
namespace Go.AM
open Go Go.RowKit
section
variable {P:Program} {N:Nat} {l:List (Nat×AV)} {H:zaa} {g:Nat} {lim:Option Nat} {g0 i:Nat} {ops:Array Oper} {K:Fr->zaa->Nat->Prop} {r:List Oper} {d:Nat} {ty:TypeId} {pos:String} {after:Array Edge}
 {O:Nat->Prop} {H0:zaa} {L Lp:List (Nat×Blk)} {b:Nat}
theorem St.perm {L':BL} (hS:St O H0 L H b) (h:L'.Perm L):St O H0 L' H b:=⟨hS.old,fun p hp=>hS.has p (h.mem_iff.1 hp),(h.map (·.1)).nodup_iff.2 hS.nd,hS.fr⟩
def msn (new k n:Nat):AV:=if n=0 then .sl .no k [] else .ms new 0 k n n
theorem zru {new k n:Nat} {es:List (List AV)} (h:es.length=n):msl new k es=msn new k n:=by
 subst h
 unfold msl msn
 by_cases e:es=[]
 ·rw [if_pos e,if_pos (by simp [e])]
 ·rw [if_neg e,if_neg (by simpa using e)]
def zlx (new n:Nat) (es:List (List AV)):BL:=if es.length=n then zhd new es else [(new,.ice),(new,.ice)]
theorem St.len {j n:Nat} {es:List (List AV)} (hS:St O H0 (Lp++zlx j n es) H b):es.length=n:=by
 by_cases h:es.length=n
 ·exact h
 ·have:=hS.nd
  rw [List.map_append,List.nodup_append] at this
  have h2:=this.2.1
  unfold zlx at h2
  rw [if_neg h] at h2
  simp at h2
theorem St.thaw {j n:Nat} {es:List (List AV)} (hS:St O H0 (Lp++zlx j n es) H b):St O H0 (Lp++zhd j es) H b:=by
 have h:=hS.len
 unfold zlx at hS
 rwa [if_pos h] at hS
theorem St.unthaw {j n:Nat} {es:List (List AV)} (h:es.length=n) (hS:St O H0 (Lp++zhd j es) H b):St O H0 (Lp++zlx j n es) H b:=by
 unfold zlx
 rwa [if_pos h]
theorem zqT {F:Operand} {args:Array Operand} {ts:Array TypeId} {kf:FuncId} {first cap bs:List AV} {mk:AV->AV} {e k:Nat} {es:List (List AV)} (hS:St O H0 Lp H b) (hd:d<N) (ht:tgt (evL N l F)=some (kf,first,cap)) (ha:first++args.toList.map (evL N l)++cap=bs)
  (hs:zmQ P kf bs mk e k es) (hm:zrt mk) (hp:∀a,a∈bs->Pure a) (hfl:∀e,e∈es->∀c,c∈e->Flat c) {n:Nat} (hn:es.length=n) (hb:b<=g0+i)
  (h:∀H',St O H0 (Lp++zlx (g0+i) n es) H' (g0+i+1)->zbi P N lim g0 ops K (i+1) r (Fr.of ((d,mk (msn (g0+i) k n))::l)) H' g) :
  zbi P N lim g0 ops K i (⟨some d,.call { callee:=.value F,args:=args,argTypes:=ts },ty,pos,after,none⟩::r) (Fr.of l) H g:=by
 simp only [zbi,zc9,opQ,zdX,zjw,ht,ha]
 refine zgE.new1 (hs.ms hm hp hfl) ?_
 rw [ziV hd]
 replace h:=fun H' h'=>h H' (St.unthaw hn h')
 rw [←zru hn] at h
 by_cases hne:es=[]
 ·subst hne
  exact h _ (by rw [show zhd (g0+i) []=[] from rfl,List.append_nil];exact hS.up (by omega))
 ·have e1:(mbl 0 es).map (fun x=>(g0+i,x))=some (g0+i,.cells es.flatten):=by unfold mbl;rw [if_neg hne];rfl
  rw [e1]
  refine h _ ?_
  have e2:zhd (g0+i) es=[(g0+i,.cells es.flatten)]:=by unfold zhd;rw [if_neg hne]
  rw [e2]
  exact (hS.add (.cells es.flatten) hb).perm (List.perm_append_comm)
theorem Ok.tl {b':Nat} {O:Nat->Prop} {H0 H:zaa} {Lp:BL} {ops:Array Oper} {i j n g0:Nat} {xs:List Int} {z u:Int} (hS:St O H0 (Lp++zlx j n (xs.map cI)) H b') (hu:idx xs z=some u) (hb:b'<=g0):Ok (some g0) ops i j:=by
 have hne:xs.map cI≠[]:=fun e=>by
  have:xs=[]:=by simpa using e
  rw [this] at hu
  unfold idx at hu
  split at hu<;>simp at hu
 have hT:=hS.thaw
 unfold zhd at hT
 rw [if_neg hne] at hT
 have:=(hT.has (j,.cells (xs.map cI).flatten) (by simp)).2.1
 exact .lt (Nat.lt_of_lt_of_le this hb)
end
section
variable {P:Program} {N:Nat} {Q:Exit->Fr->zaa->Nat->Prop} {l:List (Nat×AV)} {H:zaa} {g:Nat} {b:Code} {O:Nat->Prop} {H0:zaa} {bd:Nat}
end
theorem zmS:∀c,c∈([]:List AV)->Flat c:=fun _ h=>by simp at h
theorem zhT {x:Value} {cs:List AV} (t:∀c,c∈cs->Flat c):∀c,c∈AV.v x::cs->Flat c:=fun c hc=>by
 rcases List.mem_cons.1 hc with rfl | hc
 ·exact ⟨_,rfl⟩
 ·exact t c hc
theorem zmT {α:Type} {f:α->List AV} {xs:List α} (h:∀x,∀c,c∈f x->Flat c):∀e,e∈xs.map f->∀c,c∈e->Flat c:=fun e he=>by
 obtain ⟨x,_,rfl⟩:=List.mem_map.1 he
 exact h x
theorem zmU {α:Type} {f:α->List AV} {k:Nat} {xs:List α} (h:∀x,(f x).length=k):∀e,e∈xs.map f->e.length=k:=fun e he=>by
 obtain ⟨x,_,rfl⟩:=List.mem_map.1 he
 exact h x
theorem zsG:zrt (fun s=>s):=.inl rfl
theorem Flat.pure {c:AV} (h:Flat c):Pure c:=by obtain ⟨x,rfl⟩:=h;exact .v x
section
variable {P:Program} {N:Nat} {Q:Exit->Fr->zaa->Nat->Prop} {l:List (Nat×AV)} {H:zaa} {g:Nat} {a b:Code} {O:Nat->Prop} {H0:zaa} {bd:Nat}
end
end Go.AM
