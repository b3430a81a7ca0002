/-
  The abstract machine: new slices whose cells may be written to, and how they become read only again.
  Conditions: none; it speaks of any program.
-/
import Derived.Test.YtebfppngmmdfkaaGreatAmQ
set_option linter.all false
namespace Go.AM
open Go Go.RowKit
def E0:zab:=fun _=>none
def Flat (c:AV):Prop:=∃x,c=.v x
theorem zmB {G G':Gh} {H H':zab} {w w':World} {c:AV} {x:Value} (hf:Flat c) (h:VR G H w c x):VR G' H' w' c x:=by
 obtain ⟨y,rfl⟩:=hf
 cases h
 exact .v _
def zxp (mk:AV->AV):Prop:=(mk=fun s=>s)\/∃pre post,(∀c,c∈pre->Flat c)/\(∀c,c∈post->Flat c)/\mk=fun s=>.agg (pre++s::post)
theorem zvl {mk:AV->AV} (h:zxp mk) {G:Gh} {H:zab} {w:World} {t:Tag} {k:Nat} {es:List (List AV)} {v:Value} (hv:VR G H w (mk (.sl t k es)) v) :
  ∃u,VR G H w (.sl t k es) u/\∀(G2:Gh) (H2:zab) (w2:World) (s2:AV),VR G2 H2 w2 s2 u->VR G2 H2 w2 (mk s2) v:=by
 rcases h with rfl | ⟨pre,post,h1,h2,rfl⟩
 ·exact ⟨v,hv,fun _ _ _ _ h=>h⟩
 ·cases hv with
  | agg _ vs hl hone hc =>
   have hlt:pre.length<vs.size:=by rw [hl];simp
   refine ⟨vs[pre.length],hc pre.length _ _ (by simp) (Array.getElem?_eq_getElem hlt),fun G2 H2 w2 s2 hs2=>.agg _ vs (by rw [hl];simp) hone fun i c x hi hx=>?_⟩
   by_cases e:i=pre.length
   ·subst e
    simp at hi
    subst hi
    rw [Array.getElem?_eq_getElem hlt] at hx
    injection hx with hx
    subst hx
    exact hs2
   ·have hi':(pre++AV.sl t k es::post)[i]?=some c/\Flat c:=by
     by_cases q:i<pre.length
     ·rw [List.getElem?_append_left q] at hi ⊢
      exact ⟨hi,h1 c (List.mem_of_getElem? hi)⟩
     ·rw [List.getElem?_append_right (by omega)] at hi ⊢
      obtain ⟨j,hj⟩:∃j,i-pre.length=j+1:=⟨i-pre.length-1,by omega⟩
      rw [hj] at hi ⊢
      simp only [List.getElem?_cons_succ] at hi ⊢
      exact ⟨hi,h2 c (List.mem_of_getElem? hi)⟩
    exact zmB hi'.2 (hc i c x hi'.1 hx)
def zuh (P:Program) (f:FuncId) (as:List AV) (mk:AV->AV) (e:TypeId) (k:Nat) (es:List (List AV)):Prop :=
 zsm P f/\∀(G:Gh) (w:World) (vs:Array Value),G.lo<=w.heap.size->VRs G E0 w as vs->Calls P f vs w fun en w'=>∃v G' j,en=.returned v /\
  Hp G' (E0.set j (.row e es.length)) w'/\Ext G E0 w G' (E0.set j (.row e es.length)) w'/\VR G' (E0.set j (.row e es.length)) w' (mk (.sl (.id j) k es)) v
theorem hp0 (G:Gh) (w:World) (hlo:G.lo<=w.heap.size):Hp G E0 w where
 lo:=hlo
 cells:=fun i cs h=>by cases h
 rows:=fun i e n h=>by cases h
 inj:=fun i j cs ds h=>by cases h
 sep:=fun i j cs e n h=>by cases h
 own:=fun i j d m e n b h=>by cases h
 objs:=fun i k p h=>by cases h
 oinj:=fun i j k k' p q h=>by cases h
theorem znn {G:Gh} {b:Nat} (h:Im G E0 b):False:=by
 rcases h with ⟨i,cs,h,_⟩ | ⟨i,e,n,h,_⟩ | ⟨i,k,p,h,_⟩<;>cases h
theorem zuX {G:Gh} {H:zab} {w:World} {as:List AV} {vs:Array Value} (hp:∀a,a∈as->Pure a) (h:VRs G H w as vs):VRs G E0 w as vs :=
 ⟨h.1,fun i c x hc hx=>(h.2 i c x hc hx).back (fun i x h=>by cases h) (hp c (List.mem_of_getElem? hc)).inH⟩
theorem zuh.le {P:Program} {f:FuncId} {as bs:List AV} {mk:AV->AV} {e:TypeId} {k:Nat} {es:List (List AV)} (h:zuh P f as mk e k es) (hl:LeL as bs):zuh P f bs mk e k es :=
 ⟨h.1,fun G w vs hlo hv=>h.2 G w vs hlo (hv.le hl)⟩
theorem zjn {G G':Gh} {w w':World} {j k:Nat} {e:TypeId} {es:List (List AV)} {u:Value} (hp:Hp G' (E0.set j (.row e es.length)) w') (hE:Ext G E0 w G' (E0.set j (.row e es.length)) w')
  (hv:VR G' (E0.set j (.row e es.length)) w' (.sl (.id j) k es) u) (hfl:∀e,e∈es->∀c,c∈e->Flat c) :
  0<k/\∃xs,w'.ownsRow 0 e k u es.length xs/\(∀b,u.ownBlock=some b->w.heap.size<=b)/\(∀(G2:Gh) (H2:zab) (w2:World),RowVR G2 H2 w2 k es xs)/\∀b,b<w.heap.size->w'.heap[b]?=w.heap[b]?:=by
 obtain ⟨hz,xs,hown⟩:=hp.rows j e es.length (zab.set_same _ _ _)
 obtain ⟨a,cap,ys,rfl,hcap,hrow,htag,hblk⟩:=hv.row
 obtain ⟨e',n',hn',hsz,_,hσ⟩:=htag
 rw [zab.set_same] at hn'
 injection hn' with hn'
 injection hn' with h1 h2
 subst h1 h2
 have hσ:=hσ rfl
 rw [hsz] at hown hz
 rw [←hσ] at hown
 have hge:∀b,(Value.slice a es.length cap).ownBlock=some b->w.heap.size<=b:=fun b hb=>by
  rcases hE.im b (.inr (.inl ⟨j,e,es.length,zab.set_same _ _ _,by rw [←hσ];exact hb⟩)) with h | h
  ·exact (znn h).elim
  ·exact h
 have hxy:xs=ys:=by
  have hlen0:=hown.1
  by_cases hes:es=[]
  ·subst hes
   have h1:xs=[]:=List.eq_nil_of_length_eq_zero (by rw [hlen0];simp)
   have h2:ys=[]:=List.eq_nil_of_length_eq_zero (by rw [hrow.len];simp)
   rw [h1,h2]
  ·obtain ⟨b,o,h1,_,_,hc⟩:=hblk hes
   apply List.ext_getElem?
   intro m
   by_cases hm:m<es.length*k
   ·have e1:xs[m]?=some (xs[m]'(by omega)):=List.getElem?_eq_getElem _
    have hlo:=hrow.len
    have e2:ys[m]?=some (ys[m]'(by omega)):=List.getElem?_eq_getElem _
    have c2:=hc m _ e2
    subst h1
    have c1:=hown.cells (g:=b) rfl m _ e1
    rcases hown.2 with ⟨h3,_⟩ | ⟨g,cap',cur,h3,_⟩
    ·cases h3
    ·injection h3 with h3
     injection h3 with h3
     injection h3 with h4 h5
     subst h4 h5
     rw [c1] at c2
     rw [e1,e2,c2]
   ·have hlo:=hrow.len
    rw [List.getElem?_eq_none (by omega),List.getElem?_eq_none (by omega)]
 subst hxy
 refine ⟨hz,xs,hown,hge,fun G2 H2 w2=>⟨hrow.len,hrow.each,hrow.one,fun i m e c x hi hm hx=>zmB (hfl e (List.mem_of_getElem? hi) c (List.mem_of_getElem? hm)) (hrow.vr i m e c x hi hm hx)⟩,fun b hb=>hE.block b hb fun h=>znn h⟩
theorem zuh.row {P:Program} {f:FuncId} {as:List AV} {mk:AV->AV} {e:TypeId} {k:Nat} {es:List (List AV)} (h:zuh P f as mk e k es) (hm:zxp mk) (hp:∀a,a∈as->Pure a) (hfl:∀e,e∈es->∀c,c∈e->Flat c) :
  zjS P f as (fun new=>mk (.sl (.id new) k es)) (some (.row e es.length)):=by
 refine ⟨h.1,fun G H g new w vs hf hn hp1 hv=>(h.2 G w vs hp1.lo (zuX hp hv)).mono fun en w' ⟨v,G',j,h1,h2,h3,h4⟩=>?_⟩
 obtain ⟨u,hu,hmk⟩:=zvl hm h4
 obtain ⟨hk,xs,a1,a2,a3,a4⟩:=zjn h2 h3 hu hfl
 obtain ⟨q1,q2,q3⟩:=zhn (w':=w') hp1 hn hk a4 h3.size h3.os h3.tape h3.output a1 a2 (a3 G H w)
 exact ⟨v,_,h1,q1,q2,hmk _ _ _ _ q3⟩
def msl (new k:Nat) (es:List (List AV)):AV:=if es=[] then .sl .no k [] else .ms new 0 k es.length es.length
def mbl (new:Nat) (es:List (List AV)):Option Blk:=if es=[] then none else some (.cells es.flatten)
def zui (new:Nat) (es:List (List AV)):BL:=if es=[] then [] else [(new,.cells es.flatten)]
theorem zuh.ms {P:Program} {f:FuncId} {as:List AV} {mk:AV->AV} {e:TypeId} {k:Nat} {es:List (List AV)} (h:zuh P f as mk e k es) (hm:zxp mk) (hp:∀a,a∈as->Pure a) (hfl:∀e,e∈es->∀c,c∈e->Flat c) :
  zjS P f as (fun new=>mk (msl new k es)) (mbl 0 es):=by
 refine ⟨h.1,fun G H g new w vs hf hn hp1 hv=>(h.2 G w vs hp1.lo (zuX hp hv)).mono fun en w' ⟨v,G',j,h1,h2,h3,h4⟩=>?_⟩
 obtain ⟨u,hu,hmk⟩:=zvl hm h4
 obtain ⟨hk,xs,a1,a2,a3,a4⟩:=zjn h2 h3 hu hfl
 have hrow:=a3 G H w
 by_cases hes:es=[]
 ·subst hes
  obtain ⟨q1,q2⟩:Hp G H w'/\Ext G H w G H w':=by
   have E:Evo G H w G H w':=.of_grow a4 (fun i x h=>⟨h,rfl,rfl,rfl⟩) (fun i x h=>.inl h)
   refine ⟨⟨fun i cs hi=>?_,fun i d n hi=>?_,hp1.inj,hp1.sep,hp1.own,fun i k p hi=>?_,hp1.oinj,hp1.lo_le h3.size⟩,⟨E,h3.os,h3.tape,h3.output,h3.size,fun b hb _=>a4 b hb,fun b h=>.inl h⟩⟩
   ·obtain ⟨vs,ty,hg,hs,h1,hv⟩:=hp1.cells i cs hi
    exact ⟨vs,ty,by rw [a4 _ (hp1.lt (.inl ⟨i,cs,hi,rfl⟩))];exact hg,hs,h1,fun j c x hc hx=>(hv j c x hc hx).evo E⟩
   ·obtain ⟨hz,ys,b1,b2⟩:=hp1.rows i d n hi
    refine ⟨hz,ys,b1,b2.imp id ?_⟩
    rintro ⟨g,cap,cur,c1,c2,c3,c4⟩
    exact ⟨g,cap,cur,c1,c2,by rw [a4 g (Array.getElem?_eq_some_iff.1 c3).1];exact c3,c4⟩
   ·obtain ⟨o,ho,h2,h3⟩:=hp1.objs i k p hi
    exact ⟨o,by rw [a4 _ (hp1.lt (.inr (.inr ⟨i,k,p,hi,rfl⟩)))];exact ho,h2,h3⟩
  refine ⟨v,G,h1,q1,q2,hmk _ _ _ _ ?_⟩
  obtain ⟨a,cap,ys,rfl,hcap,_,_,_⟩:=hu.row
  exact .sl .no k [] a cap 0 0 (fun _ _=>undef) hcap (fun e h=>by simp at h) (fun h=>absurd rfl h) (fun i j e c h=>by simp at h) (fun i j e c h=>by simp at h) trivial
 ·rcases a1.2 with ⟨h5,h6⟩ | ⟨b,cap,cur,rfl,_,hg,hnc,hcm,hcs,htake⟩
  ·exact absurd (List.eq_nil_of_length_eq_zero h6) hes
  ·have hge:=a2 b rfl
   obtain ⟨f1,f2⟩:=zeh es hrow.each
   have hcur:∀(m:Nat) (x:Value),m<es.length*k->cur[m]?=some x->xs[m]?=some x:=fun m x hm hx=>by
    rw [←htake,List.getElem?_take,if_pos hm,Array.getElem?_toList]
    exact hx
   have hle:es.flatten.length<=cur.size:=by rw [f1,hcs];exact Nat.mul_le_mul_right _ hnc
   have hdec:∀(m:Nat),m<es.length*k->m / k<es.length/\m % k<k/\m / k*k+m % k=m:=fun m hm =>
    ⟨Nat.div_lt_of_lt_mul (by rw [Nat.mul_comm];exact hm),Nat.mod_lt _ hk,by have:=Nat.div_add_mod m k;rw [Nat.mul_comm] at this;exact this⟩
   obtain ⟨q1,q2⟩:=zhd (w':=w') (b:=b) (cs:=es.flatten) (vs:=cur) hp1 hn a4 h3.size h3.os h3.tape h3.output hge hg hle (fun m x hm hx=>hrow.one x (List.mem_of_getElem? (hcur m x (by rw [←f1];exact hm) hx))) (fun m c x hc hx=>by
    have hm:m<es.length*k:=by have:=(List.getElem?_eq_some_iff.1 hc).1;omega
    obtain ⟨d1,d2,d3⟩:=hdec m hm
    have hj:m % k<es[m / k].length:=by rw [hrow.each _ (List.getElem_mem d1)];exact d2
    have e1:=f2 (m / k) (m % k) es[m / k] es[m / k][m % k] (List.getElem?_eq_getElem d1) (List.getElem?_eq_getElem hj)
    rw [d3,hc] at e1
    injection e1 with e1
    exact hrow.vr (m / k) (m % k) es[m / k] c x (List.getElem?_eq_getElem d1) (by rw [e1];exact List.getElem?_eq_getElem hj) (by rw [d3];exact hcur m x hm hx))
   have hb:(mbl 0 es).map (fun x=>(new,x))=some (new,.cells es.flatten):=by unfold mbl;rw [if_neg hes];rfl
   rw [hb]
   refine ⟨v,_,h1,q1,q2,hmk _ _ _ _ ?_⟩
   unfold msl
   rw [if_neg hes]
   exact .ms new 0 k es.length es.length _ cap (.inl ⟨_,zab.set_same _ _ _⟩) (fun _=>by simp [Gh.atC,Gh.atφ]) (Nat.le_refl _) hnc (fun _=>by simp [Gh.atC,hcs])
section
variable {P:Program} {N:Nat} {Q:Exit->Fr->zab->Nat->Prop} {l:List (Nat×AV)} {H:zab} {g:Nat} {b:Code} {O:Nat->Prop} {H0:zab} {L L':List (Nat×Blk)} {bd:Nat}
end
end Go.AM
