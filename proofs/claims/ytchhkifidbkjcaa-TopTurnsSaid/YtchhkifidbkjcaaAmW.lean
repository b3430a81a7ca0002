/-
  The abstract machine: new slices whose cells may be written to, and how they become read only again.
  Conditions: none; it speaks of any program.
-/
import Derived.Test.YtchhkifidbkjcaaAmQ
set_option linter.all false
namespace Go.AM
open Go Go.RowKit
def E0:zaa:=fun _=>none
def Flat (c:AV):Prop:=∃x,c=.v x
theorem zkD {G G':Gh} {H H':zaa} {w w':World} {c:AV} {x:Value} (hf:Flat c) (h:VR G H w c x):VR G' H' w' c x:=by
 obtain ⟨y,rfl⟩:=hf
 cases h
 exact .v _
def zyj (mk:AV->AV):Prop:=(mk=fun s=>s)\/∃pre post,(∀c,c∈pre->Flat c)/\(∀c,c∈post->Flat c)/\mk=fun s=>.agg (pre++s::post)
theorem zwl {mk:AV->AV} (h:zyj mk) {G:Gh} {H:zaa} {w:World} {t:Tag} {k:Nat} {es:List (List AV)} {v:Value} (hv:VR G H w (mk (.sl t k es)) v) :
  ∃u,VR G H w (.sl t k es) u/\∀(G2:Gh) (H2:zaa) (w2:World) (s2:AV),VR G2 H2 w2 s2 u->VR G2 H2 w2 (mk s2) v:=by
 rcases h with rfl | ⟨pre,post,h1,h2,rfl⟩
 ·exact ⟨v,hv,fun _ _ _ _ h=>h⟩
 ·cases hv with
  | agg _ vs hl hone hc =>
   have hlt:pre.length<vs.size:=by rw [hl];simp
   refine ⟨vs[pre.length],hc pre.length _ _ (by simp) (Array.getElem?_eq_getElem hlt),fun G2 H2 w2 s2 hs2=>.agg _ vs (by rw [hl];simp) hone fun i c x hi hx=>?_⟩
   by_cases e:i=pre.length
   ·subst e
    simp at hi
    subst hi
    rw [Array.getElem?_eq_getElem hlt] at hx
    injection hx with hx
    subst hx
    exact hs2
   ·have hi':(pre++AV.sl t k es::post)[i]?=some c/\Flat c:=by
     by_cases q:i<pre.length
     ·rw [List.getElem?_append_left q] at hi ⊢
      exact ⟨hi,h1 c (List.mem_of_getElem? hi)⟩
     ·rw [List.getElem?_append_right (by omega)] at hi ⊢
      obtain ⟨j,hj⟩:∃j,i-pre.length=j+1:=⟨i-pre.length-1,by omega⟩
      rw [hj] at hi ⊢
      simp only [List.getElem?_cons_succ] at hi ⊢
      exact ⟨hi,h2 c (List.mem_of_getElem? hi)⟩
    exact zkD hi'.2 (hc i c x hi'.1 hx)
def zu8 (P:Program) (f:FuncId) (as:List AV) (mk:AV->AV) (e:TypeId) (k:Nat) (es:List (List AV)):Prop :=
 ztg P f/\∀(G:Gh) (w:World) (vs:Array Value),G.lo<=w.heap.size->VRs G E0 w as vs->Calls P f vs w fun en w'=>∃v G' j,en=.returned v /\
  Hp G' (E0.set j (.row e es.length)) w'/\Ext G E0 w G' (E0.set j (.row e es.length)) w'/\VR G' (E0.set j (.row e es.length)) w' (mk (.sl (.id j) k es)) v
theorem hp0 (G:Gh) (w:World) (hlo:G.lo<=w.heap.size):Hp G E0 w where
 lo:=hlo
 cells:=fun i cs h=>by cases h
 rows:=fun i e n h=>by cases h
 inj:=fun i j cs ds h=>by cases h
 sep:=fun i j cs e n h=>by cases h
 own:=fun i j d m e n b h=>by cases h
 objs:=fun i k p h=>by cases h
 oinj:=fun i j k k' p q h=>by cases h
theorem zqx {G:Gh} {b:Nat} (h:Im G E0 b):False:=by
 rcases h with ⟨i,cs,h,_⟩ | ⟨i,e,n,h,_⟩ | ⟨i,k,p,h,_⟩<;>cases h
theorem zxo {G:Gh} {H:zaa} {w:World} {as:List AV} {vs:Array Value} (hp:∀a,a∈as->Pure a) (h:VRs G H w as vs):VRs G E0 w as vs :=
 ⟨h.1,fun i c x hc hx=>(h.2 i c x hc hx).back (fun i x h=>by cases h) (hp c (List.mem_of_getElem? hc)).inH⟩
theorem zu8.le {P:Program} {f:FuncId} {as bs:List AV} {mk:AV->AV} {e:TypeId} {k:Nat} {es:List (List AV)} (h:zu8 P f as mk e k es) (hl:LeL as bs):zu8 P f bs mk e k es :=
 ⟨h.1,fun G w vs hlo hv=>h.2 G w vs hlo (hv.le hl)⟩
theorem zpp {G G':Gh} {w w':World} {j k:Nat} {e:TypeId} {es:List (List AV)} {u:Value} (hp:Hp G' (E0.set j (.row e es.length)) w') (hE:Ext G E0 w G' (E0.set j (.row e es.length)) w')
  (hv:VR G' (E0.set j (.row e es.length)) w' (.sl (.id j) k es) u) (hfl:∀e,e∈es->∀c,c∈e->Flat c) :
  0<k/\∃xs,w'.ownsRow 0 e k u es.length xs/\(∀b,u.ownBlock=some b->w.heap.size<=b)/\(∀(G2:Gh) (H2:zaa) (w2:World),RowVR G2 H2 w2 k es xs)/\∀b,b<w.heap.size->w'.heap[b]?=w.heap[b]?:=by
 obtain ⟨hz,xs,hown⟩:=hp.rows j e es.length (zaa.set_same _ _ _)
 obtain ⟨a,cap,ys,rfl,hcap,hrow,htag,hblk⟩:=hv.row
 obtain ⟨e',n',hn',hsz,_,hσ⟩:=htag
 rw [zaa.set_same] at hn'
 injection hn' with hn'
 injection hn' with h1 h2
 subst h1 h2
 have hσ:=hσ rfl
 rw [hsz] at hown hz
 rw [←hσ] at hown
 have hge:∀b,(Value.slice a es.length cap).ownBlock=some b->w.heap.size<=b:=fun b hb=>by
  rcases hE.im b (.inr (.inl ⟨j,e,es.length,zaa.set_same _ _ _,by rw [←hσ];exact hb⟩)) with h | h
  ·exact (zqx h).elim
  ·exact h
 have hxy:xs=ys:=by
  have hlen0:=hown.1
  by_cases hes:es=[]
  ·subst hes
   have h1:xs=[]:=List.eq_nil_of_length_eq_zero (by rw [hlen0];simp)
   have h2:ys=[]:=List.eq_nil_of_length_eq_zero (by rw [hrow.len];simp)
   rw [h1,h2]
  ·obtain ⟨b,o,h1,_,_,hc⟩:=hblk hes
   apply List.ext_getElem?
   intro m
   by_cases hm:m<es.length*k
   ·have e1:xs[m]?=some (xs[m]'(by omega)):=List.getElem?_eq_getElem _
    have hlo:=hrow.len
    have e2:ys[m]?=some (ys[m]'(by omega)):=List.getElem?_eq_getElem _
    have c2:=hc m _ e2
    subst h1
    have c1:=hown.cells (g:=b) rfl m _ e1
    rcases hown.2 with ⟨h3,_⟩ | ⟨g,cap',cur,h3,_⟩
    ·cases h3
    ·injection h3 with h3
     injection h3 with h3
     injection h3 with h4 h5
     subst h4 h5
     rw [c1] at c2
     rw [e1,e2,c2]
   ·have hlo:=hrow.len
    rw [List.getElem?_eq_none (by omega),List.getElem?_eq_none (by omega)]
 subst hxy
 refine ⟨hz,xs,hown,hge,fun G2 H2 w2=>⟨hrow.len,hrow.each,hrow.one,fun i m e c x hi hm hx=>zkD (hfl e (List.mem_of_getElem? hi) c (List.mem_of_getElem? hm)) (hrow.vr i m e c x hi hm hx)⟩,fun b hb=>hE.block b hb fun h=>zqx h⟩
theorem zu8.row {P:Program} {f:FuncId} {as:List AV} {mk:AV->AV} {e:TypeId} {k:Nat} {es:List (List AV)} (h:zu8 P f as mk e k es) (hm:zyj mk) (hp:∀a,a∈as->Pure a) (hfl:∀e,e∈es->∀c,c∈e->Flat c) :
  zh8 P f as (fun new=>mk (.sl (.id new) k es)) (some (.row e es.length)):=by
 refine ⟨h.1,fun G H g new w vs hf hn hp1 hv=>(h.2 G w vs hp1.lo (zxo hp hv)).mono fun en w' ⟨v,G',j,h1,h2,h3,h4⟩=>?_⟩
 obtain ⟨u,hu,hmk⟩:=zwl hm h4
 obtain ⟨hk,xs,a1,a2,a3,a4⟩:=zpp h2 h3 hu hfl
 obtain ⟨q1,q2,q3⟩:=zh9 (w':=w') hp1 hn hk a4 h3.size h3.os h3.tape h3.output a1 a2 (a3 G H w)
 exact ⟨v,_,h1,q1,q2,hmk _ _ _ _ q3⟩
def msl (new k:Nat) (es:List (List AV)):AV:=if es=[] then .sl .no k [] else .ms new 0 k es.length es.length
def mbl (new:Nat) (es:List (List AV)):Option Blk:=if es=[] then none else some (.cells es.flatten)
def zfx (new:Nat) (es:List (List AV)):BL:=if es=[] then [] else [(new,.cells es.flatten)]
theorem zu8.ms {P:Program} {f:FuncId} {as:List AV} {mk:AV->AV} {e:TypeId} {k:Nat} {es:List (List AV)} (h:zu8 P f as mk e k es) (hm:zyj mk) (hp:∀a,a∈as->Pure a) (hfl:∀e,e∈es->∀c,c∈e->Flat c) :
  zh8 P f as (fun new=>mk (msl new k es)) (mbl 0 es):=by
 refine ⟨h.1,fun G H g new w vs hf hn hp1 hv=>(h.2 G w vs hp1.lo (zxo hp hv)).mono fun en w' ⟨v,G',j,h1,h2,h3,h4⟩=>?_⟩
 obtain ⟨u,hu,hmk⟩:=zwl hm h4
 obtain ⟨hk,xs,a1,a2,a3,a4⟩:=zpp h2 h3 hu hfl
 have hrow:=a3 G H w
 by_cases hes:es=[]
 ·subst hes
  obtain ⟨q1,q2⟩:Hp G H w'/\Ext G H w G H w':=by
   have E:Evo G H w G H w':=.of_grow a4 (fun i x h=>⟨h,rfl,rfl,rfl⟩) (fun i x h=>.inl h)
   refine ⟨⟨fun i cs hi=>?_,fun i d n hi=>?_,hp1.inj,hp1.sep,hp1.own,fun i k p hi=>?_,hp1.oinj,hp1.lo_le h3.size⟩,⟨E,h3.os,h3.tape,h3.output,h3.size,fun b hb _=>a4 b hb,fun b h=>.inl h⟩⟩
   ·obtain ⟨vs,ty,hg,hs,h1,hv⟩:=hp1.cells i cs hi
    exact ⟨vs,ty,by rw [a4 _ (hp1.lt (.inl ⟨i,cs,hi,rfl⟩))];exact hg,hs,h1,fun j c x hc hx=>(hv j c x hc hx).evo E⟩
   ·obtain ⟨hz,ys,b1,b2⟩:=hp1.rows i d n hi
    refine ⟨hz,ys,b1,b2.imp id ?_⟩
    rintro ⟨g,cap,cur,c1,c2,c3,c4⟩
    exact ⟨g,cap,cur,c1,c2,by rw [a4 g (Array.getElem?_eq_some_iff.1 c3).1];exact c3,c4⟩
   ·obtain ⟨o,ho,h2,h3⟩:=hp1.objs i k p hi
    exact ⟨o,by rw [a4 _ (hp1.lt (.inr (.inr ⟨i,k,p,hi,rfl⟩)))];exact ho,h2,h3⟩
  refine ⟨v,G,h1,q1,q2,hmk _ _ _ _ ?_⟩
  obtain ⟨a,cap,ys,rfl,hcap,_,_,_⟩:=hu.row
  exact .sl .no k [] a cap 0 0 (fun _ _=>undef) hcap (fun e h=>by simp at h) (fun h=>absurd rfl h) (fun i j e c h=>by simp at h) (fun i j e c h=>by simp at h) trivial
 ·rcases a1.2 with ⟨h5,h6⟩ | ⟨b,cap,cur,rfl,_,hg,hnc,hcm,hcs,htake⟩
  ·exact absurd (List.eq_nil_of_length_eq_zero h6) hes
  ·have hge:=a2 b rfl
   obtain ⟨f1,f2⟩:=zcr es hrow.each
   have hcur:∀(m:Nat) (x:Value),m<es.length*k->cur[m]?=some x->xs[m]?=some x:=fun m x hm hx=>by
    rw [←htake,List.getElem?_take,if_pos hm,Array.getElem?_toList]
    exact hx
   have hle:es.flatten.length<=cur.size:=by rw [f1,hcs];exact Nat.mul_le_mul_right _ hnc
   have hdec:∀(m:Nat),m<es.length*k->m / k<es.length/\m % k<k/\m / k*k+m % k=m:=fun m hm =>
    ⟨Nat.div_lt_of_lt_mul (by rw [Nat.mul_comm];exact hm),Nat.mod_lt _ hk,by have:=Nat.div_add_mod m k;rw [Nat.mul_comm] at this;exact this⟩
   obtain ⟨q1,q2⟩:=zga (w':=w') (b:=b) (cs:=es.flatten) (vs:=cur) hp1 hn a4 h3.size h3.os h3.tape h3.output hge hg hle (fun m x hm hx=>hrow.one x (List.mem_of_getElem? (hcur m x (by rw [←f1];exact hm) hx))) (fun m c x hc hx=>by
    have hm:m<es.length*k:=by have:=(List.getElem?_eq_some_iff.1 hc).1;omega
    obtain ⟨d1,d2,d3⟩:=hdec m hm
    have hj:m % k<es[m / k].length:=by rw [hrow.each _ (List.getElem_mem d1)];exact d2
    have e1:=f2 (m / k) (m % k) es[m / k] es[m / k][m % k] (List.getElem?_eq_getElem d1) (List.getElem?_eq_getElem hj)
    rw [d3,hc] at e1
    injection e1 with e1
    exact hrow.vr (m / k) (m % k) es[m / k] c x (List.getElem?_eq_getElem d1) (by rw [e1];exact List.getElem?_eq_getElem hj) (by rw [d3];exact hcur m x hm hx))
   have hb:(mbl 0 es).map (fun x=>(new,x))=some (new,.cells es.flatten):=by unfold mbl;rw [if_neg hes];rfl
   rw [hb]
   refine ⟨v,_,h1,q1,q2,hmk _ _ _ _ ?_⟩
   unfold msl
   rw [if_neg hes]
   exact .ms new 0 k es.length es.length _ cap (.inl ⟨_,zaa.set_same _ _ _⟩) (fun _=>by simp [Gh.atC,Gh.atφ]) (Nat.le_refl _) hnc (fun _=>by simp [Gh.atC,hcs])
theorem zuz {G:Gh} {H:zaa} {w:World} {i k n c:Nat} {cs:List AV} {es:List (List AV)} {x:Value} (hi:H i=some (.cells cs)) (hp:Hp G H w) (hk:0<k) (hes:∀e,e∈es->e.length=k) (hn:n=es.length) (hcs:cs.take (n*k)=es.flatten) (hfl:∀e,e∈es->∀c,c∈e->Flat c)
  (hv:VR G H w (.ms i 0 k n c) x):VR G (H.set i .ice) w (.sl .no k es) x:=by
 subst hn
 cases hv with
 | ms _ _ _ _ _ a cap hcel ha hn hc _ =>
  obtain ⟨f,hf⟩:=hp.range hi
  obtain ⟨f1,f2⟩:=zcr es hes
  have hlen:es.length*k<=cs.length:=by
   have:=congrArg List.length hcs
   rw [List.length_take,f1] at this
   omega
  have hget:∀(p j:Nat) (e:List AV) (c:AV),es[p]?=some e->e[j]?=some c->cs[p*k+j]?=some c:=fun p j e c hp' hj=>by
   have h1:=f2 p j e c hp' hj
   have h2:p*k+j<es.length*k:=by
    have h3:p<es.length:=(List.getElem?_eq_some_iff.1 hp').1
    have h4:j<k:=by rw [←hes e (List.mem_of_getElem? hp')];exact (List.getElem?_eq_some_iff.1 hj).1
    have h5:(p+1)*k<=es.length*k:=Nat.mul_le_mul_right _ h3
    rw [Nat.add_mul] at h5
    omega
   rw [←hcs,List.getElem?_take,if_pos h2] at h1
   exact h1
  refine .sl .no k es a cap (G.φ i) 0 (fun p j=>f (p*k+j)) (by omega) hes (fun hne=>⟨hk,ha (by have:=List.length_pos_iff.2 hne;omega),fun x ds hx=>?_,fun x d m hx hb=>?_⟩) (fun p j e c hpp hj=>?_) (fun p j e c hpp hj=>?_) trivial
  ·rcases zaa.set_cases hx with ⟨_,hx⟩ | ⟨hne',hx⟩
   ·cases hx
   ·exact fun e=>hne' (hp.inj x i ds cs hx hi e)
  ·rcases zaa.set_cases hx with ⟨_,hx⟩ | ⟨_,hx⟩
   ·cases hx
   ·exact absurd hb (hp.sep i x cs d m hi hx)
  ·have:=hf (p*k+j) c (hget p j e c hpp hj)
   exact ⟨by rw [Nat.add_assoc];exact this.1,this.2.1⟩
  ·exact zkD (hfl e (List.mem_of_getElem? hpp) c (List.mem_of_getElem? hj)) (hf (p*k+j) c (hget p j e c hpp hj)).2.2
section
variable {P:Program} {N:Nat} {Q:Exit->Fr->zaa->Nat->Prop} {l:List (Nat×AV)} {H:zaa} {g:Nat} {b:Code} {O:Nat->Prop} {H0:zaa} {L L':List (Nat×Blk)} {bd:Nat}
theorem St.tail {Lp:BL} {i:Nat} {es:List (List AV)} (hS:St O H0 (Lp++zfx i es) H bd) (hne:es≠[]):H i=some (.cells es.flatten):=by
 have:(i,Blk.cells es.flatten)∈Lp++zfx i es:=List.mem_append.2 (.inr (by unfold zfx;rw [if_neg hne];simp))
 exact (hS.has _ this).2.2
theorem St.front {Lp T:BL} (hS:St O H0 (Lp++T) H bd):St O H0 Lp H bd:=hS.sub (List.sublist_append_left _ _)
theorem zwm {Lp:BL} {i t k:Nat} {es:List (List AV)} (hS:St O H0 (Lp++zfx i es) H bd) (ht:lk l t=msl i k es) (hk:0<k) (hes:∀e,e∈es->e.length=k) (hfl:∀e,e∈es->∀c,c∈e->Flat c)
  (h:∀H',St O H0 Lp H' bd->Exit.thenA (fun fr' H' g'=>∃fr0 H0 g0,zjc fr' H' g' fr0 H0 g0/\wpA P N b Q fr0 H0 g0) Q .normal (Fr.of ((t,.sl .no k es)::l)) H' g) :
  Exit.thenA (fun fr' H' g'=>∃fr0 H0 g0,zjc fr' H' g' fr0 H0 g0/\wpA P N b Q fr0 H0 g0) Q .normal (Fr.of l) H g:=by
 by_cases hne:es=[]
 ·subst hne
  obtain ⟨fr0,H1,g1,hd,hw⟩:=h H hS.front
  refine ⟨fr0,H1,g1,zjc.trans (.le (fun t'=>?_) _ _) hd,hw⟩
  show Le (lk _ t') (lk l t')
  by_cases e:t'=t
  ·subst e
   rw [zkz,ht]
   exact .refl _
  ·rw [zoA e]
   exact .refl _
 ·have hi:=hS.tail hne
  have hid:i∈ids (Lp++zfx i es):=by
   simp only [ids,List.map_append,List.mem_append]
   exact .inr (by unfold zfx;rw [if_neg hne];simp)
  have hnd:=hS.nd
  rw [List.map_append,List.nodup_append] at hnd
  have hni:∀p,p∈Lp->p.1≠i:=fun p hp e=>hnd.2.2 p.1 (List.mem_map_of_mem (f:=(·.1)) hp) i (by unfold zfx;rw [if_neg hne];simp) e
  have hOi:¬O i/\i<bd:=by
   have:=hS.has (i,.cells es.flatten) (List.mem_append.2 (.inr (by unfold zfx;rw [if_neg hne];simp)))
   exact ⟨this.1,this.2.1⟩
  obtain ⟨fr0,H1,g1,hd,hw⟩:=h (H.set i .ice) ⟨fun j hj=>⟨(hS.old j hj).1,(zaa.set_ne _ _ (show j≠i from fun e=>hOi.1 (by rw [←e];exact hj))).trans (hS.old j hj).2⟩,fun p hp=>by
   have:=hS.has p (List.mem_append.2 (.inl hp))
   exact ⟨this.1,this.2.1,by rw [zaa.set_ne _ _ (hni p hp)];exact this.2.2⟩,hnd.1,fun j hj=>by rw [zaa.set_ne _ _ (by omega)];exact hS.fr j hj⟩
  refine ⟨fr0,H1,g1,zjc.trans (fun hf=>?_) hd,hw⟩
  obtain ⟨h1,h2⟩:=zmk hi hf
  refine ⟨h1,fun G w hp=>?_⟩
  obtain ⟨q1,q2⟩:=h2 G w hp
  refine ⟨G,q1,q2,fun t' x hv=>?_⟩
  show VR G _ w (lk _ t') x
  by_cases e:t'=t
  ·subst e
   rw [zkz]
   have hv:VR G H w (lk l t') x:=hv
   rw [ht] at hv
   unfold msl at hv
   rw [if_neg hne] at hv
   refine zuz hi hp hk hes rfl ?_ hfl hv
   rw [List.take_of_length_le]
   rw [(zcr es hes).1]
   exact Nat.le_refl _
  ·rw [zoA e]
   exact VR.evo q2.evo hv
end
end Go.AM
