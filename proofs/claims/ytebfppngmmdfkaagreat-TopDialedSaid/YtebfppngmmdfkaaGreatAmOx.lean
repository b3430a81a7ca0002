/-
  The abstract machine: calls whose result holds several new slices, some of which are written to.
  Conditions: none; it speaks of any program.
-/
import Derived.Test.YtebfppngmmdfkaaGreatAmOw
import Derived.Test.YtebfppngmmdfkaaGreatAmSk
set_option linter.all false
namespace Go.AM
open Go Go.RowKit
structure Dat (w w':World) (r:RD) (u:Value):Prop where
 k:0<r.2.1
 own:∃xs,w'.ownsRow 0 r.1 r.2.1 u r.2.2.length xs/\∀(G2:Gh) (H2:zab) (w2:World),RowVR G2 H2 w2 r.2.1 r.2.2 xs
 ge:∀b,u.ownBlock=some b->w.heap.size<=b
 fl:∀e,e∈r.2.2->∀c,c∈e->Flat c
theorem Dat.no {w w':World} {r:RD} {u:Value} (d:Dat w w' r u) {G:Gh} {H:zab} (hf:∀b n,u.ownBlock=some b->zjc G H b n):VR G H w' (.sl .no r.2.1 r.2.2) u:=by
 obtain ⟨e,k,es⟩:=r
 obtain ⟨xs,hown,hr⟩:=d.own
 have hr:RowVR G H w' k es xs:=hr G H w'
 replace hown:w'.ownsRow 0 e k u es.length xs:=hown
 rcases hown.2 with ⟨hv,hn⟩ | ⟨g,cap,cur,hv,_,hg,hnc,_,hcs,htake⟩
 ·have hne:es=[]:=List.eq_nil_of_length_eq_zero hn
  subst hne
  rw [hv]
  exact .sl .no k [] none 0 0 0 (fun _ _=>undef) (by simp) (fun e h=>by simp at h) (fun h=>absurd rfl h) (fun i j e c h=>by simp at h) (fun i j e c h=>by simp at h) trivial
 ·have hcell:∀j,j<es.length*k->∃x,xs[j]?=some x/\w'.cell? ⟨g,j,none⟩=some x:=fun j hj=>by
   have hl:j<xs.length:=by rw [hown.1];exact hj
   refine ⟨xs[j],List.getElem?_eq_getElem hl,?_⟩
   have:=hown.cells (g:=g) (by rw [hv];rfl) j xs[j] (List.getElem?_eq_getElem hl)
   rwa [Addr.add_mid,Nat.zero_add] at this
  have hix:∀(i j:Nat) (e:List AV) (c:AV),es[i]?=some e->e[j]?=some c->i*k+j<es.length*k:=fun i j e c hi hj=>by
   have h3:i<es.length:=(List.getElem?_eq_some_iff.1 hi).1
   have h4:j<k:=by rw [←hr.each e (List.mem_of_getElem? hi)];exact (List.getElem?_eq_some_iff.1 hj).1
   have h5:(i+1)*k<=es.length*k:=Nat.mul_le_mul_right _ h3
   rw [Nat.add_mul] at h5
   omega
  rw [hv]
  refine .sl .no k es (some ⟨g,0,none⟩) cap g 0 (fun i j=>xs.getD (i*k+j) undef) hnc hr.each (fun _=>⟨d.k,rfl,hf g _ (by rw [hv];rfl)⟩) (fun i j e c hi hj=>?_) (fun i j e c hi hj=>?_) trivial
  ·obtain ⟨x,hx,hc⟩:=hcell _ (hix i j e c hi hj)
   have hd:xs.getD (i*k+j) undef=x:=by rw [List.getD_eq_getElem?_getD,hx];rfl
   simp only [hd]
   exact ⟨by rw [Nat.zero_add];exact hc,hr.one x (List.mem_of_getElem? hx)⟩
  ·obtain ⟨x,hx,_⟩:=hcell _ (hix i j e c hi hj)
   have hd:xs.getD (i*k+j) undef=x:=by rw [List.getD_eq_getElem?_getD,hx];rfl
   simp only [hd]
   exact hr.vr i j e c x hi hj hx
inductive Mo where
 | no | ms | row
def zjo (L:BL):List Nat->List Nat->List RD->Prop
 | j::js,n::ns,r::rs=>(∃m,L[n]?=some (j,.row r.1 m)/\m=r.2.2.length)/\zjo L js ns rs
 | [],[],[]=>True
 | _,_,_=>False
theorem zjo.get {L:BL}:∀(js ns:List Nat) (rs:List RD),zjo L js ns rs->js.length=rs.length/\js.length=ns.length/\∀(t j n:Nat) (r:RD),js[t]?=some j->ns[t]?=some n->rs[t]?=some r->L[n]?=some (j,.row r.1 r.2.2.length)
 | j::js,n::ns,r::rs,h=>by
  obtain ⟨⟨m,h1,rfl⟩,h2⟩:=h
  obtain ⟨a,b,c⟩:=zjo.get js ns rs h2
  refine ⟨by simpa using a,by simpa using b,fun t j' n' r' q1 q2 q3=>?_⟩
  cases t with
  | zero=>simp at q1 q2 q3;subst q1 q2 q3;exact h1
  | succ t=>exact c t j' n' r' (by simpa using q1) (by simpa using q2) (by simpa using q3)
 | [],[],[],_=>⟨rfl,rfl,fun t j n r h=>by simp at h⟩
 | [],_::_,_,h=>h.elim
 | [],[],_::_,h=>h.elim
 | _::_,[],_,h=>h.elim
 | _::_,_::_,[],h=>h.elim
theorem zjo.nil {L:BL}:zjo L [] [] []:=trivial
theorem zjo.cons {L:BL} {j n e k m:Nat} {es:List (List AV)} {js ns:List Nat} {rs:List RD} (h:L[n]?=some (j,.row e m)) (hm:m=es.length) (t:zjo L js ns rs):zjo L (j::js) (n::ns) ((e,k,es)::rs):=⟨⟨m,h,hm⟩,t⟩
section
variable {P:Program} {N:Nat} {l:List (Nat×AV)} {H:zab} {g:Nat} {lim:Option Nat} {g0 i:Nat} {ops:Array Oper} {K:Fr->zab->Nat->Prop} {r:List Oper} {d:Nat} {ty:TypeId} {pos:String} {after:Array Edge}
 {O:Nat->Prop} {H0:zab} {L A B C D E:BL} {b bd:Nat}
end
end Go.AM
