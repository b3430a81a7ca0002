/-
  The abstract machine: what a reading as data stands for.
  Conditions: none; it speaks of any program.
-/
import Derived.Test.YtchhkifidbkjcaaAmP
import Derived.Deep.Slices
import Derived.ChangeArms
set_option linter.all false
namespace Go.AM
open Go Go.RowKit
section
variable {T:Type} {P:Program}
def HE:zaa:=fun _=>none
theorem zfw {i:Nat} {x:Blk} (h:HE i=some x):False:=by cases h
theorem zqw (G:Gh) (b n:Nat):zis G HE b n:=⟨fun _ _ h=>(zfw h).elim,fun _ _ _ h=>(zfw h).elim⟩
theorem ztE (G:Gh) (w:World) (hlo:G.lo<=w.heap.size):Hp G HE w:=⟨fun _ _ h=>(zfw h).elim,fun _ _ _ h=>(zfw h).elim,fun _ _ _ _ h=>(zfw h).elim,fun _ _ _ _ _ h=>(zfw h).elim,fun _ _ _ _ _ _ _ h=>(zfw h).elim,fun _ _ _ h=>(zfw h).elim,fun _ _ _ _ _ _ h=>(zfw h).elim,hlo⟩
def Reads (enc:TypeId×Value->T) (P:Program) (t:TypeId) {α:Type} (f:α->List AV) (wf:α->Prop):Prop :=
 ∀(G:Gh) (w:World) (base:Nat) (sp:Nat->Bool) (held:Bool) (fuel:Nat) (cs:List Value) (x:DataW T×List MemPlace),DataW.trod enc P w base sp held fuel t cs=some x ->
  ∃a,wf a/\(f a).length=cs.length/\∀(i:Nat) (c:AV) (v:Value),(f a)[i]?=some c->cs[i]?=some v->VR G HE w c v/\v.oneCell'=true
variable {enc:TypeId×Value->T}
theorem Reads.map {t:TypeId} {α β:Type} {f:α->List AV} {g:β->List AV} {wf:α->Prop} {wg:β->Prop} (h:Reads enc P t f wf) (φ:α->β) (hf:∀a,g (φ a)=f a) (hw:∀a,wf a->wg (φ a)):Reads enc P t g wg :=
 fun G w base sp held fuel cs x hx=>by
  obtain ⟨a,h1,h2,h3⟩:=h G w base sp held fuel cs x hx
  exact ⟨φ a,hw a h1,by rw [hf];exact h2,by rw [hf];exact h3⟩
theorem zrJ {t:TypeId} {k:IntKind} (ht:P.underlying t=some (.int k)):Reads enc P t (fun n:Int=>[.v (.int k n)]) (fun n=>(Lit.int k n).wf=true):=fun G w base sp held fuel cs x hx=>by
 obtain ⟨n,h1,h2,h3⟩:=DataW.trod_int ht hx
 subst h1
 refine ⟨n,h3,rfl,fun i c v hc hv=>?_⟩
 cases i with
 | zero =>
  simp at hc hv
  subst hc hv
  exact ⟨.v _,rfl⟩
 | succ i=>simp at hc
theorem zkC {α:Type} {p:Nat->α->Prop}:∀(n:Nat),(∀i,i<n->∃a,p i a)->∃as:List α,as.length=n/\∀i a,as[i]?=some a->p i a
 | 0,_=>⟨[],rfl,fun i a h=>by simp at h⟩
 | n+1,h=>by
  obtain ⟨as,h1,h2⟩:=zkC n fun i hi=>h i (by omega)
  obtain ⟨a,ha⟩:=h n (by omega)
  refine ⟨as++[a],by simp [h1],fun i b hb=>?_⟩
  by_cases hi:i<n
  ·rw [List.getElem?_append_left (by omega)] at hb
   exact h2 i b hb
  ·rw [List.getElem?_append_right (by omega)] at hb
   have:i=n:=by
    have:=(List.getElem?_eq_some_iff.1 hb).1
    simp at this
    omega
   subst this
   simp [h1] at hb
   subst hb
   exact ha
theorem zoI {t e:TypeId} {k:Nat} {α:Type} {f:α->List AV} {wf:α->Prop} (ht:P.underlying t=some (.slice e)) (hk:P.cellsOf e=k) (hpos:0<k) (hlen:∀a,(f a).length=k) (hR:Reads enc P e f wf) :
  Reads enc P t (fun as:List α=>[.sl .no k (as.map f)]) (fun as=>∀a,a∈as->wf a):=fun G w base sp held fuel cs x hx=>by
 have one:∀(s:Value) (as:List α),s.oneCell'=true->VR G HE w (.sl .no k (as.map f)) s->∀(i:Nat) (c:AV) (v:Value),([AV.sl .no k (as.map f)])[i]?=some c->[s][i]?=some v->VR G HE w c v/\v.oneCell'=true:=by
  intro s as h1 h2 i c v hc hv
  cases i with
  | zero =>
   simp at hc hv
   subst hc hv
   exact ⟨h2,h1⟩
  | succ i=>simp at hc
 rcases DataW.trod_slice ht hx with ⟨rfl,_⟩ | ⟨a,len,cap,elems,rest,n,_,rfl,_,hb,hl,hm,hlen',hel,_,_⟩
 ·exact ⟨[],fun _ h=>by simp at h,rfl,one _ [] rfl (.sl .no k [] none 0 0 0 (fun _ _=>undef) (Nat.le_refl _) (fun e h=>by simp at h) (fun h=>absurd rfl h) (fun i j e c h=>by simp at h) (fun i j e c h=>by simp at h) trivial)⟩
 ·have each:∀i,i<len->∃q:α,wf q/\∀(j:Nat) (c:AV),(f q)[j]?=some c->∃v,w.cell? ((a.add (i*k)).add j)=some v/\VR G HE w c v/\v.oneCell'=true:=fun i hi=>by
   have h1:=hel i hi
   rw [List.getElem?_eq_getElem (by omega)] at h1
   obtain ⟨cs',h2,h3⟩:=Option.bind_eq_some_iff.1 h1
   obtain ⟨q,q1,q2,q3⟩:=hR G w base sp held n cs' _ h3
   obtain ⟨_,hcl,hat⟩:=World.cells?_some h2
   refine ⟨q,q1,fun j c hj=>?_⟩
   have hjk:j<k:=by have:=(List.getElem?_eq_some_iff.1 hj).1;rw [hlen] at this;exact this
   have hjc:j<cs'.length:=by rw [hcl,hk];exact hjk
   have h4:=hat j (by rw [hk];exact hjk)
   rw [hk,List.getElem?_eq_getElem hjc] at h4
   exact ⟨cs'[j],h4,q3 j c _ hj (List.getElem?_eq_getElem hjc)⟩
  obtain ⟨as,ha,hp⟩:=zkC len each
  refine ⟨as,fun q hq=>?_,rfl,one _ as rfl ?_⟩
  ·obtain ⟨i,hi⟩:=List.getElem?_of_mem hq
   exact (hp i q hi).1
  obtain ⟨b,o,spot⟩:=a
  have hspot:as≠[]->spot=none:=fun hne=>by
   obtain ⟨q,as',rfl⟩:∃q as',as=q::as':=by cases as with | nil=>exact absurd rfl hne | cons q as'=>exact ⟨q,as',rfl⟩
   have h0:=(hp 0 q rfl).2 0 ((f q)[0]'(by rw [hlen];exact hpos)) (List.getElem?_eq_getElem _)
   obtain ⟨v,hv,_⟩:=h0
   unfold World.cell? at hv
   split at hv
   ·split at hv
    ·cases hv
    ·rename_i hns
     cases spot with
     | none=>rfl
     | some z=>simp [Addr.add] at hns
   ·cases hv
  have hcell:∀(i j:Nat) (e:List AV) (c:AV),(as.map f)[i]?=some e->e[j]?=some c->∃v,w.cell? ⟨b,o+i*k+j,none⟩=some v/\VR G HE w c v/\v.oneCell'=true:=fun i j e c hi hj=>by
   rw [List.getElem?_map] at hi
   obtain ⟨q,hq,rfl⟩:=Option.map_eq_some_iff.1 hi
   have hne:as≠[]:=fun e=>by subst e;simp at hq
   have hs:=hspot hne
   subst hs
   obtain ⟨v,hv,h⟩:=(hp i q hq).2 j c hj
   rw [Addr.add_mid,Addr.add_mid] at hv
   exact ⟨v,hv,h⟩
  have hl':len=(as.map f).length:=by simp [ha]
  subst hl'
  refine .sl .no k (as.map f) _ cap b o (fun i j=>(w.cell? ⟨b,o+i*k+j,none⟩).getD undef) hl (fun e he=>?_) (fun hne=>⟨hpos,?_,zqw _ _ _⟩) (fun i j e c hi hj=>?_) (fun i j e c hi hj=>?_) trivial
  ·obtain ⟨q,_,rfl⟩:=List.mem_map.1 he
   exact hlen q
  ·rw [hspot (fun e=>by subst e;simp at hne)]
  ·obtain ⟨v,hv,_,h1⟩:=hcell i j e c hi hj
   rw [hv]
   exact ⟨rfl,h1⟩
  ·obtain ⟨v,hv,h1,_⟩:=hcell i j e c hi hj
   rw [hv]
   exact h1
def structOf (P:Program) (t:TypeId):Option (List (Nat×TypeId)):=match P.underlying t with
 | some (.struct fs)=>some (fs.toList.map fun f=>(f.offset,f.type))
 | _=>none
def zpn (enc:TypeId×Value->T) (P:Program) (fs:List (Nat×TypeId)) (off:Nat) {α:Type} (f:α->List AV) (wf:α->Prop):Prop :=
 ∀(G:Gh) (w:World) (base:Nat) (sp:Nat->Bool) (held:Bool) (n:Nat) (cs:List Value),(∀(i:Nat) (fd:Nat×TypeId),fs[i]?=some fd->∃x,DataW.trod enc P w base sp held n fd.2 ((cs.drop fd.1).take (P.cellsOf fd.2))=some x) ->
  ∃a,wf a/\∀(i:Nat) (c:AV) (v:Value),(f a)[i]?=some c->cs[off+i]?=some v->VR G HE w c v/\v.oneCell'=true
theorem zlW (off:Nat):zpn enc P [] off (fun _:Unit=>[]) (fun _=>True):=fun G w base sp held n cs _=>⟨(),trivial,fun i c v h=>by simp at h⟩
theorem zeX {t:TypeId} {fs:List (Nat×TypeId)} {off k:Nat} {α β:Type} {f:α->List AV} {g:β->List AV} {wf:α->Prop} {wg:β->Prop} (hk:P.cellsOf t=k) (hl:∀a,(f a).length=k) (h:Reads enc P t f wf) (tl:zpn enc P fs (off+k) g wg) :
  zpn enc P ((off,t)::fs) off (fun q:α×β=>f q.1++g q.2) (fun q=>wf q.1/\wg q.2):=fun G w base sp held n cs hx=>by
 obtain ⟨x,h1⟩:=hx 0 (off,t) rfl
 obtain ⟨a,a1,a2,a3⟩:=h G w base sp held n _ x h1
 obtain ⟨b,b1,b2⟩:=tl G w base sp held n cs fun i fd' hi=>hx (i+1) fd' hi
 refine ⟨(a,b),⟨a1,b1⟩,fun i c v hc hv=>?_⟩
 by_cases hi:i<k
 ·simp only at hc
  rw [List.getElem?_append_left (by rw [hl];exact hi)] at hc
  refine a3 i c v hc ?_
  rw [hk,List.getElem?_take,if_pos hi,List.getElem?_drop]
  exact hv
 ·simp only at hc
  rw [List.getElem?_append_right (by rw [hl];omega),hl] at hc
  refine b2 (i-k) c v hc ?_
  rw [show off+k+(i-k)=off+i by omega]
  exact hv
theorem zjF {t:TypeId} {fl:List (Nat×TypeId)} {α:Type} {f:α->List AV} {wf:α->Prop} (ht:structOf P t=some fl) (hl:∀a,(f a).length=P.cellsOf t) (h:zpn enc P fl 0 f wf):Reads enc P t f wf:=fun G w base sp held fuel cs x hx=>by
 unfold structOf at ht
 split at ht
 case h_2=>cases ht
 rename_i fs hfs
 injection ht with ht
 subst ht
 obtain ⟨xs,n,_,_,hcl,hxl,hf⟩:=DataW.trod_struct hfs hx
 obtain ⟨a,h1,h2⟩:=h G w base sp held n cs fun i fd hi=>by
  rw [List.getElem?_map] at hi
  obtain ⟨f',hf',rfl⟩:=Option.map_eq_some_iff.1 hi
  have hi':fs[i]?=some f':=by simpa using hf'
  have hlt:i<xs.length:=by rw [hxl];exact (Array.getElem?_eq_some_iff.1 hi').1
  exact ⟨xs[i],by rw [hf i f' hi',List.getElem?_eq_getElem hlt]⟩
 exact ⟨a,h1,by rw [hl,hcl],fun i c v hc hv=>h2 i c v hc (by rw [Nat.zero_add];exact hv)⟩
end
end Go.AM
