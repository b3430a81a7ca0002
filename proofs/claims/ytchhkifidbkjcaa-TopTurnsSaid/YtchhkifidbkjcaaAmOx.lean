/-
  The abstract machine: calls whose result holds several new slices, some of which are written to.
  Conditions: none; it speaks of any program.
-/
import Derived.Test.YtchhkifidbkjcaaAmOw
import Derived.Test.YtchhkifidbkjcaaAmSk
set_option linter.all false
namespace Go.AM
open Go Go.RowKit
structure Dat (w w':World) (r:RD) (u:Value):Prop where
 k:0<r.2.1
 own:∃xs,w'.ownsRow 0 r.1 r.2.1 u r.2.2.length xs/\∀(G2:Gh) (H2:zaa) (w2:World),RowVR G2 H2 w2 r.2.1 r.2.2 xs
 ge:∀b,u.ownBlock=some b->w.heap.size<=b
 fl:∀e,e∈r.2.2->∀c,c∈e->Flat c
theorem zsa {G G':Gh} {H':zaa} {w w':World} {j:Nat} {r:RD} {u:Value} (hj:H' j=some (.row r.1 r.2.2.length)) (hp:Hp G' H' w') (hE:Ext G E0 w G' H' w')
  (hv:VR G' H' w' (.sl (.id j) r.2.1 r.2.2) u) (hfl:∀e,e∈r.2.2->∀c,c∈e->Flat c):Dat w w' r u/\u=G'.σ j:=by
 obtain ⟨e,k,es⟩:=r
 simp only at hj hv hfl
 obtain ⟨hz,xs,hown⟩:=hp.rows j e es.length hj
 obtain ⟨a,cap,ys,rfl,hcap,hrow,htag,hblk⟩:=hv.row
 obtain ⟨e',n',hn',hsz,_,hσ⟩:=htag
 rw [hj] at hn'
 injection hn' with hn'
 injection hn' with h1 h2
 subst h1 h2
 have hσ:=hσ rfl
 rw [hsz] at hown hz
 rw [←hσ] at hown
 have hge:∀b,(Value.slice a es.length cap).ownBlock=some b->w.heap.size<=b:=fun b hb=>by
  rcases hE.im b (.inr (.inl ⟨j,e,es.length,hj,by rw [←hσ];exact hb⟩)) with h | h
  ·exact (zqx h).elim
  ·exact h
 have hxy:xs=ys:=by
  have hlen0:=hown.1
  by_cases hes:es=[]
  ·subst hes
   have h1:xs=[]:=List.eq_nil_of_length_eq_zero (by rw [hlen0];simp)
   have h2:ys=[]:=List.eq_nil_of_length_eq_zero (by rw [hrow.len];simp)
   rw [h1,h2]
  ·obtain ⟨b,o,h1,_,_,hc⟩:=hblk hes
   apply List.ext_getElem?
   intro m
   by_cases hm:m<es.length*k
   ·have e1:xs[m]?=some (xs[m]'(by omega)):=List.getElem?_eq_getElem _
    have hlo:=hrow.len
    have e2:ys[m]?=some (ys[m]'(by omega)):=List.getElem?_eq_getElem _
    have c2:=hc m _ e2
    subst h1
    have c1:=hown.cells (g:=b) rfl m _ e1
    rcases hown.2 with ⟨h3,_⟩ | ⟨g,cap',cur,h3,_⟩
    ·cases h3
    ·injection h3 with h3
     injection h3 with h3
     injection h3 with h4 h5
     subst h4 h5
     rw [c1] at c2
     rw [e1,e2,c2]
   ·have hlo:=hrow.len
    rw [List.getElem?_eq_none (by omega),List.getElem?_eq_none (by omega)]
 subst hxy
 exact ⟨⟨hz,⟨xs,hown,fun G2 H2 w2=>⟨hrow.len,hrow.each,hrow.one,fun i m e c x hi hm hx=>zkD (hfl e (List.mem_of_getElem? hi) c (List.mem_of_getElem? hm)) (hrow.vr i m e c x hi hm hx)⟩⟩,hge,hfl⟩,hσ⟩
theorem Dat.no {w w':World} {r:RD} {u:Value} (d:Dat w w' r u) {G:Gh} {H:zaa} (hf:∀b n,u.ownBlock=some b->zis G H b n):VR G H w' (.sl .no r.2.1 r.2.2) u:=by
 obtain ⟨e,k,es⟩:=r
 obtain ⟨xs,hown,hr⟩:=d.own
 have hr:RowVR G H w' k es xs:=hr G H w'
 replace hown:w'.ownsRow 0 e k u es.length xs:=hown
 rcases hown.2 with ⟨hv,hn⟩ | ⟨g,cap,cur,hv,_,hg,hnc,_,hcs,htake⟩
 ·have hne:es=[]:=List.eq_nil_of_length_eq_zero hn
  subst hne
  rw [hv]
  exact .sl .no k [] none 0 0 0 (fun _ _=>undef) (by simp) (fun e h=>by simp at h) (fun h=>absurd rfl h) (fun i j e c h=>by simp at h) (fun i j e c h=>by simp at h) trivial
 ·have hcell:∀j,j<es.length*k->∃x,xs[j]?=some x/\w'.cell? ⟨g,j,none⟩=some x:=fun j hj=>by
   have hl:j<xs.length:=by rw [hown.1];exact hj
   refine ⟨xs[j],List.getElem?_eq_getElem hl,?_⟩
   have:=hown.cells (g:=g) (by rw [hv];rfl) j xs[j] (List.getElem?_eq_getElem hl)
   rwa [Addr.add_mid,Nat.zero_add] at this
  have hix:∀(i j:Nat) (e:List AV) (c:AV),es[i]?=some e->e[j]?=some c->i*k+j<es.length*k:=fun i j e c hi hj=>by
   have h3:i<es.length:=(List.getElem?_eq_some_iff.1 hi).1
   have h4:j<k:=by rw [←hr.each e (List.mem_of_getElem? hi)];exact (List.getElem?_eq_some_iff.1 hj).1
   have h5:(i+1)*k<=es.length*k:=Nat.mul_le_mul_right _ h3
   rw [Nat.add_mul] at h5
   omega
  rw [hv]
  refine .sl .no k es (some ⟨g,0,none⟩) cap g 0 (fun i j=>xs.getD (i*k+j) undef) hnc hr.each (fun _=>⟨d.k,rfl,hf g _ (by rw [hv];rfl)⟩) (fun i j e c hi hj=>?_) (fun i j e c hi hj=>?_) trivial
  ·obtain ⟨x,hx,hc⟩:=hcell _ (hix i j e c hi hj)
   have hd:xs.getD (i*k+j) undef=x:=by rw [List.getD_eq_getElem?_getD,hx];rfl
   simp only [hd]
   exact ⟨by rw [Nat.zero_add];exact hc,hr.one x (List.mem_of_getElem? hx)⟩
  ·obtain ⟨x,hx,_⟩:=hcell _ (hix i j e c hi hj)
   have hd:xs.getD (i*k+j) undef=x:=by rw [List.getD_eq_getElem?_getD,hx];rfl
   simp only [hd]
   exact hr.vr i j e c x hi hj hx
inductive Mo where
 | no | ms | row
def zj6:Nat->List Mo->List RD->BL
 | g,.ms::ms,r::rs=>zfT g r.2.2.length r.2.2++zj6 (g+1) ms rs
 | g,.row::ms,r::rs=>(g,.row r.1 r.2.2.length)::zj6 (g+1) ms rs
 | g,.no::ms,_::rs=>zj6 (g+1) ms rs
 | _,_,_=>[]
def zra:Nat->List Mo->List RD->List AV
 | g,.ms::ms,r::rs=>msn g r.2.1 r.2.2.length::zra (g+1) ms rs
 | g,.row::ms,r::rs=>.sl (.id g) r.2.1 r.2.2::zra (g+1) ms rs
 | g,.no::ms,r::rs=>.sl .no r.2.1 r.2.2::zra (g+1) ms rs
 | _,_,_=>[]
theorem znB {i x:Nat} {es:List (List AV)} (h:x∈ids (zfT i es.length es)):x=i:=by
 unfold zfT zfx at h
 rw [if_pos rfl] at h
 split at h
 ·simp [ids] at h
 ·simpa [ids] using h
theorem ztR (i:Nat) (es:List (List AV)):(ids (zfT i es.length es)).Nodup:=by
 unfold zfT zfx
 rw [if_pos rfl]
 split
 ·simp [ids]
 ·simp [ids]
theorem zgY:∀(g:Nat) (ms:List Mo) (rs:List RD) (x:Nat),x∈ids (zj6 g ms rs)->g<=x/\x<g+rs.length
 | g,.ms::ms,r::rs,x,h=>by
  simp only [zj6,ids,List.map_append,List.mem_append] at h
  rcases h with h | h
  ·have:=znB h
   simp only [List.length_cons]
   omega
  ·have:=zgY (g+1) ms rs x h
   simp only [List.length_cons]
   omega
 | g,.row::ms,r::rs,x,h=>by
  simp only [zj6,ids,List.map_cons,List.mem_cons] at h
  rcases h with h | h
  ·simp only [List.length_cons]
   omega
  ·have:=zgY (g+1) ms rs x h
   simp only [List.length_cons]
   omega
 | g,.no::ms,r::rs,x,h=>by
  have:=zgY (g+1) ms rs x h
  simp only [List.length_cons]
  omega
 | g,[],rs,x,h=>by simp [zj6,ids] at h
 | g,.ms::ms,[],x,h=>by simp [zj6,ids] at h
 | g,.row::ms,[],x,h=>by simp [zj6,ids] at h
 | g,.no::ms,[],x,h=>by simp [zj6,ids] at h
theorem zmD:∀(g:Nat) (ms:List Mo) (rs:List RD),(ids (zj6 g ms rs)).Nodup
 | g,.ms::ms,r::rs=>by
  simp only [zj6,ids,List.map_append]
  refine List.nodup_append.2 ⟨ztR _ _,zmD _ _ _,fun x hx y hy e=>?_⟩
  have:=znB hx
  have:=zgY _ _ _ _ hy
  omega
 | g,.row::ms,r::rs=>by
  simp only [zj6,ids,List.map_cons]
  refine List.nodup_cons.2 ⟨fun h=>?_,zmD _ _ _⟩
  have:=zgY _ _ _ _ h
  omega
 | g,.no::ms,r::rs=>zmD (g+1) ms rs
 | g,[],rs=>by simp [zj6,ids]
 | g,.ms::ms,[]=>by simp [zj6,ids]
 | g,.row::ms,[]=>by simp [zj6,ids]
 | g,.no::ms,[]=>by simp [zj6,ids]
def zwy (u v:Value):Prop:=∀b,u.ownBlock=some b->v.ownBlock≠some b
theorem ztS {G:Gh} {H:zaa} {w w':World} (hp:Hp G H w) (gw:Grw w w'):∀(ms:List Mo) (rs:List RD) (us:List Value) (n:Nat) (Gm:Gh) (Hm:zaa) (S:List Nat),ms.length=rs.length->us.length=rs.length->Gro G H w w' Gm Hm S->(∀i,n<=i->Hm i=none) ->
  (∀(t:Nat) (r:RD) (u:Value),rs[t]?=some r->us[t]?=some u->Dat w w' r u)->us.Pairwise zwy->(∀u,u∈us->∀b,u.ownBlock=some b->b∉S) ->
  ∃G2 H2 S2,Gro G H w w' G2 H2 S2/\(∀i,i<n->H2 i=Hm i/\G2.φ i=Gm.φ i/\G2.σ i=Gm.σ i/\G2.sz i=Gm.sz i)/\(∀i,n+rs.length<=i->H2 i=none)/\(∀b,b∈S2->b∈S\/∃u,u∈us/\u.ownBlock=some b)/\Has H2 (zj6 n ms rs)/\VRL G2 H2 w' (zra n ms rs) us
 | [],[],us,n,Gm,Hm,S,_,hu,g,hf,hd,hpw,hS=>by
  obtain rfl:us=[]:=List.eq_nil_of_length_eq_zero hu
  exact ⟨Gm,Hm,S,g,fun i _=>⟨rfl,rfl,rfl,rfl⟩,fun i h=>hf i (by simpa using h),fun b h=>.inl h,fun p h=>by simp [zj6] at h,rfl,fun i c x h=>by simp [zra] at h⟩
 | m::ms,r::rs,us,n,Gm,Hm,S,hm,hu,g,hf,hd,hpw,hS=>by
  obtain ⟨u,us,rfl⟩:∃u us',us=u::us':=by cases us with | nil=>simp at hu | cons u us=>exact ⟨u,us,rfl⟩
  have d:Dat w w' r u:=hd 0 r u rfl rfl
  have hm':ms.length=rs.length:=by simpa using hm
  have hu':us.length=rs.length:=by simpa using hu
  have hd':∀(t:Nat) (r:RD) (u:Value),rs[t]?=some r->us[t]?=some u->Dat w w' r u:=fun t r u h1 h2=>hd (t+1) r u (by simpa using h1) (by simpa using h2)
  obtain ⟨hp1,hp2⟩:=List.pairwise_cons.1 hpw
  have hS':∀u',u'∈us->∀b,u'.ownBlock=some b->b∉S:=fun u' h=>hS u' (List.mem_cons_of_mem _ h)
  have hn:Hm n=none:=hf n (Nat.le_refl _)
  obtain ⟨xs,hown,hr⟩:=d.own
  have hub:∀b,u.ownBlock=some b->w.heap.size<=b/\b∉S:=fun b hb=>⟨d.ge b hb,hS u (List.mem_cons_self ..) b hb⟩
  have skip:(∃G2 H2 S2,Gro G H w w' G2 H2 S2/\(∀i,i<n+1->H2 i=Hm i/\G2.φ i=Gm.φ i/\G2.σ i=Gm.σ i/\G2.sz i=Gm.sz i)/\(∀i,n+1+rs.length<=i->H2 i=none)/\(∀b,b∈S2->b∈S\/∃u,u∈us/\u.ownBlock=some b)/\Has H2 (zj6 (n+1) ms rs)/\VRL G2 H2 w' (zra (n+1) ms rs) us) :=
   ztS hp gw ms rs us (n+1) Gm Hm S hm' hu' g (fun i h=>hf i (by omega)) hd' hp2 hS'
  have free:∀{G2:Gh} {H2:zaa} {S2:List Nat},Gro G H w w' G2 H2 S2->(∀b,b∈S2->b∈S\/∃u,u∈us/\u.ownBlock=some b)->∀b n,u.ownBlock=some b->zis G2 H2 b n:=fun {G2 H2 S2} g2 hs2 b m hb=>by
   refine zis.of_not_im (fun him=>?_) m
   rcases g2.im him with h | h
   ·have:=hp.lt h
    have:=(hub b hb).1
    omega
   ·rcases hs2 b h with h | ⟨u',h1,h2⟩
    ·exact (hub b hb).2 h
    ·exact hp1 u' h1 b hb h2
  cases m with
  | no =>
   obtain ⟨G2,H2,S2,q1,q2,q3,q4,q5,q6⟩:=skip
   exact ⟨G2,H2,S2,q1,fun i h=>q2 i (by omega),fun i h=>q3 i (by simp only [List.length_cons] at h;omega),fun b h=>(q4 b h).imp id fun ⟨u',a,b⟩=>⟨u',List.mem_cons_of_mem _ a,b⟩,q5,.cons (d.no (free q1 q4)) q6⟩
  | row =>
   have g1:=g.addR hp gw hn d.k hown hub
   obtain ⟨G2,H2,S2,q1,q2,q3,q4,q5,q6⟩:=ztS hp gw ms rs us (n+1) _ _ _ hm' hu' g1 (fun i h=>by rw [zaa.set_ne _ _ (by omega)];exact hf i (by omega)) hd' hp2 (fun u' h b hb hb'=>by
    rcases List.mem_append.1 hb' with h' | h'
    ·cases hv:u.ownBlock with
     | none=>rw [hv] at h';simp at h'
     | some y=>rw [hv] at h';simp at h';subst h';exact hp1 u' h _ hv hb
    ·exact hS' u' h b hb h')
   obtain ⟨k1,_,k2,k3⟩:=q2 n (by omega)
   rw [zaa.set_same] at k1
   have k2:G2.σ n=u:=by rw [k2];simp [Gh.atσ]
   have k3:G2.sz n=r.2.1:=by rw [k3];simp [Gh.atσ]
   refine ⟨G2,H2,S2,q1,fun i h=>?_,fun i h=>q3 i (by simp only [List.length_cons] at h;omega),fun b h=>?_,fun p hpm=>?_,.cons ?_ q6⟩
   ·obtain ⟨a1,a2,a3,a4⟩:=q2 i (by omega)
    have hne:i≠n:=by omega
    exact ⟨by rw [a1,zaa.set_ne _ _ hne],a2,by rw [a3];simp [Gh.atσ,hne],by rw [a4];simp [Gh.atσ,hne]⟩
   ·rcases q4 b h with h | ⟨u',a,b⟩
    ·rcases List.mem_append.1 h with h | h
     ·refine .inr ⟨u,List.mem_cons_self ..,?_⟩
      cases hv:u.ownBlock with
      | none=>rw [hv] at h;simp at h
      | some y=>rw [hv] at h;simp at h;rw [h]
     ·exact .inl h
    ·exact .inr ⟨u',List.mem_cons_of_mem _ a,b⟩
   ·rcases List.mem_cons.1 hpm with rfl | h
    ·exact k1
    ·exact q5 p h
   ·have:=q1.hp.row_vr (τ:=n) (e:=r.1) (es:=r.2.2) (xs:=xs) k1 (by rw [k3];exact d.k) (by rw [k2,k3];exact hown) (by rw [k3];exact hr _ _ _)
    rwa [k2,k3] at this
  | ms =>
   by_cases hes:r.2.2=[]
   ·obtain ⟨G2,H2,S2,q1,q2,q3,q4,q5,q6⟩:=skip
    refine ⟨G2,H2,S2,q1,fun i h=>q2 i (by omega),fun i h=>q3 i (by simp only [List.length_cons] at h;omega),fun b h=>(q4 b h).imp id fun ⟨u',a,b⟩=>⟨u',List.mem_cons_of_mem _ a,b⟩,fun p hpm=>?_,.cons ?_ q6⟩
    ·refine q5 p ?_
     simp only [zj6] at hpm
     rw [hes] at hpm
     simpa [zfT,zfx] using hpm
    ·have:=d.no (free q1 q4)
     rw [hes] at this ⊢
     exact this
   ·obtain ⟨e,k,es⟩:=r
    simp only at hes hown hr
    rcases hown.2 with ⟨_,h6⟩ | ⟨b,cap,cur,rfl,_,hg,hnc,hcm,hcs,htake⟩
    ·exact absurd (List.eq_nil_of_length_eq_zero h6) hes
    obtain ⟨hge,hbS⟩:=hub b rfl
    have hrow:=hr G H w
    have hk:0<k:=d.k
    obtain ⟨f1,f2⟩:=zcr es hrow.each
    have hcur:∀(m:Nat) (x:Value),m<es.length*k->cur[m]?=some x->xs[m]?=some x:=fun m x hm hx=>by
     rw [←htake,List.getElem?_take,if_pos hm,Array.getElem?_toList]
     exact hx
    have hle:es.flatten.length<=cur.size:=by rw [f1,hcs];exact Nat.mul_le_mul_right _ hnc
    have hdec:∀(m:Nat),m<es.length*k->m / k<es.length/\m % k<k/\m / k*k+m % k=m:=fun m hm =>
     ⟨Nat.div_lt_of_lt_mul (by rw [Nat.mul_comm];exact hm),Nat.mod_lt _ hk,by have:=Nat.div_add_mod m k;rw [Nat.mul_comm] at this;exact this⟩
    have g1:=g.addC hp gw (new:=n) (b:=b) (vs:=cur) (ty:=e) (cs:=es.flatten) hn hge hbS hg hle (fun m x hm hx=>hrow.one x (List.mem_of_getElem? (hcur m x (by rw [←f1];exact hm) hx))) (fun m c x hc hx G2 H2 w2=>by
     have hm:m<es.length*k:=by have:=(List.getElem?_eq_some_iff.1 hc).1;omega
     obtain ⟨d1,d2,d3⟩:=hdec m hm
     have hj:m % k<es[m / k].length:=by rw [hrow.each _ (List.getElem_mem d1)];exact d2
     have e1:=f2 (m / k) (m % k) es[m / k] es[m / k][m % k] (List.getElem?_eq_getElem d1) (List.getElem?_eq_getElem hj)
     rw [d3,hc] at e1
     injection e1 with e1
     exact (hr G2 H2 w2).vr (m / k) (m % k) es[m / k] c x (List.getElem?_eq_getElem d1) (by rw [e1];exact List.getElem?_eq_getElem hj) (by rw [d3];exact hcur m x hm hx)) (fun c hc=>by
     obtain ⟨e',he',hc⟩:=List.mem_flatten.1 hc
     exact d.fl e' he' c hc)
    obtain ⟨G2,H2,S2,q1,q2,q3,q4,q5,q6⟩:=ztS hp gw ms rs us (n+1) _ _ _ hm' hu' g1 (fun i h=>by rw [zaa.set_ne _ _ (by omega)];exact hf i (by omega)) hd' hp2 (fun u' h b' hb hb'=>by
     rcases List.mem_cons.1 hb' with rfl | h'
     ·exact hp1 u' h _ rfl hb
     ·exact hS' u' h b' hb h')
    obtain ⟨k1,k2,_,k3⟩:=q2 n (by omega)
    rw [zaa.set_same] at k1
    have k2:G2.φ n=b:=by rw [k2];simp [Gh.atC,Gh.atφ]
    have k3:G2.sz n=cur.size:=by rw [k3];simp [Gh.atC]
    refine ⟨G2,H2,S2,q1,fun i h=>?_,fun i h=>q3 i (by simp only [List.length_cons] at h;omega),fun b h=>?_,fun p hpm=>?_,.cons ?_ q6⟩
    ·obtain ⟨a1,a2,a3,a4⟩:=q2 i (by omega)
     have hne:i≠n:=by omega
     exact ⟨by rw [a1,zaa.set_ne _ _ hne],by rw [a2];simp [Gh.atC,Gh.atφ,hne],by rw [a3];rfl,by rw [a4];simp [Gh.atC,hne]⟩
    ·rcases q4 b h with h | ⟨u',a,b⟩
     ·rcases List.mem_cons.1 h with rfl | h
      ·exact .inr ⟨_,List.mem_cons_self ..,rfl⟩
      ·exact .inl h
     ·exact .inr ⟨u',List.mem_cons_of_mem _ a,b⟩
    ·simp only [zj6,List.mem_append] at hpm
     rcases hpm with h | h
     ·unfold zfT zfx at h
      rw [if_pos rfl,if_neg hes] at h
      obtain rfl:=List.mem_singleton.1 h
      exact k1
     ·exact q5 p h
    ·show VR G2 H2 w' (msn n k es.length) _
     unfold msn
     rw [if_neg (fun e=>hes (List.eq_nil_of_length_eq_zero e))]
     exact .ms n 0 k es.length es.length _ cap (.inl ⟨_,k1⟩) (fun _=>by rw [k2]) (Nat.le_refl _) hnc (fun _=>by rw [k3,hcs];simp)
theorem ziM:∀(js:List Nat) (rs:List RD) (t j:Nat) (r:RD),js.Nodup->js[t]?=some j->rs[t]?=some r->rowAt js rs j=some (.row r.1 r.2.2.length)
 | j0::js,r0::rs,0,j,r,_,h1,h2=>by
  simp at h1 h2
  subst h1 h2
  exact zaa.set_same _ _ _
 | j0::js,r0::rs,t+1,j,r,hnd,h1,h2=>by
  obtain ⟨n1,n2⟩:=List.nodup_cons.1 hnd
  have hj:js[t]?=some j:=by simpa using h1
  have hne:j≠j0:=fun e=>n1 (e▸List.mem_of_getElem? hj)
  show ((rowAt js rs).set j0 _) j=_
  rw [zaa.set_ne _ _ hne]
  exact ziM js rs t j r n2 hj (by simpa using h2)
 | [],rs,t,j,r,_,h1,_=>by simp at h1
 | _::_,[],t,j,r,_,_,h2=>by simp at h2
theorem znC:∀(js:List Nat) (rs:List RD) (t j:Nat) (r:RD),js[t]?=some j->rs[t]?=some r->(zoP js rs)[t]?=some (.sl (.id j) r.2.1 r.2.2)
 | j0::js,r0::rs,0,j,r,h1,h2=>by
  simp at h1 h2
  subst h1 h2
  rfl
 | j0::js,r0::rs,t+1,j,r,h1,h2=>znC js rs t j r (by simpa using h1) (by simpa using h2)
 | [],rs,t,j,r,h1,_=>by simp at h1
 | _::_,[],t,j,r,_,h2=>by simp at h2
theorem zkM:∀(js:List Nat) (rs:List RD),js.length=rs.length->(zoP js rs).length=rs.length
 | [],[],_=>rfl
 | j::js,r::rs,h=>by simp [zoP,zkM js rs (by simpa using h)]
theorem zj7:∀(g:Nat) (ms:List Mo) (rs:List RD),ms.length=rs.length->(zra g ms rs).length=rs.length
 | g,[],[],_=>rfl
 | g,.no::ms,r::rs,h=>by simp [zra,zj7 (g+1) ms rs (by simpa using h)]
 | g,.ms::ms,r::rs,h=>by simp [zra,zj7 (g+1) ms rs (by simpa using h)]
 | g,.row::ms,r::rs,h=>by simp [zra,zj7 (g+1) ms rs (by simpa using h)]
theorem zwx.satP {P:Program} {f:FuncId} {as:List AV} {tm:List (Option Value)} {rs:List RD} (h:zwx P f as tm rs) (hp:∀a,a∈as->Pure a) (hfl:∀r,r∈rs->∀e,e∈r.2.2->∀c,c∈e->Flat c) (ht:zlt tm=rs.length) (ms:List Mo) (hm:ms.length=rs.length) :
  ∀H g,za2 H g->zq9 P f as H g fun v H' g'=>v=.agg (fill tm (zra g ms rs))/\g'=g+rs.length/\(∀i,i<g->H' i=H i)/\Has H' (zj6 g ms rs)/\za2 H' g':=fun H g hf=>by
 refine ⟨h.1,⟨_,H.puts (zj6 g ms rs),g+rs.length,rfl,rfl,fun i hi=>zei H fun hm=>?_,zgU H (zmD _ _ _),fun i hi=>?_⟩,fun G w vs hp1 hv=>(h.2 G w vs hp1.lo (zxo hp hv)).mono fun en w' ⟨v,G',js,h1,hl,hnd,h2,h3,h4⟩=>?_⟩
 ·have:=zgY _ _ _ _ hm;omega
 ·rw [zei H fun hm=>by have:=zgY _ _ _ _ hm;omega]
  exact hf i (by omega)
 have gw:Grw w w':=⟨fun b hb=>h3.block b hb fun h=>zqx h,h3.size,h3.os,h3.tape,h3.output⟩
 cases h4 with
 | agg _ vs hvl hone hvr =>
  have hsl:(zoP js rs).length=zlt tm:=by rw [zkM js rs hl,ht]
  obtain ⟨us,hus,hfill⟩:=zmC (G:=G') (H:=rowAt js rs) (w:=w') tm (zoP js rs) vs.toList hsl ⟨by simpa using hvl,fun i c x hc hx=>hvr i c x hc (by simpa using hx)⟩
  have hul:us.length=rs.length:=by rw [hus.1,zkM js rs hl]
  have dat:∀(t:Nat) (r:RD) (u:Value) (j:Nat),rs[t]?=some r->us[t]?=some u->js[t]?=some j->Dat w w' r u/\u=G'.σ j:=fun t r u j hr hu hj =>
   zsa (ziM js rs t j r hnd hj hr) h2 h3 (hus.2 t _ u (znC js rs t j r hj hr) hu) (hfl r (List.mem_of_getElem? hr))
  have hpw:us.Pairwise zwy:=by
   rw [List.pairwise_iff_getElem]
   intro i j hi hj hij b hb hb'
   have ri:rs[i]?=some (rs[i]'(by omega)):=List.getElem?_eq_getElem _
   have rj:rs[j]?=some (rs[j]'(by omega)):=List.getElem?_eq_getElem _
   have ji:js[i]?=some (js[i]'(by omega)):=List.getElem?_eq_getElem _
   have jj:js[j]?=some (js[j]'(by omega)):=List.getElem?_eq_getElem _
   have e1:=(dat i _ _ _ ri (List.getElem?_eq_getElem hi) ji).2
   have e2:=(dat j _ _ _ rj (List.getElem?_eq_getElem hj) jj).2
   have:=h2.own _ _ _ _ _ _ b (ziM js rs i _ _ hnd ji ri) (ziM js rs j _ _ hnd jj rj) (by rw [←e1];exact hb) (by rw [←e2];exact hb')
   have:=(List.getElem_inj hnd).1 this
   omega
  obtain ⟨G2,H2,S2,q1,q2,q3,q4,q5,q6⟩:=ztS hp1 gw ms rs us g G H [] hm hul (.start hp1 gw) (fun i hi=>hf i hi) (fun t r u hr hu=>by
   have hlt:t<js.length:=by have:=(List.getElem?_eq_some_iff.1 hr).1;omega
   exact (dat t r u _ hr hu (List.getElem?_eq_getElem hlt)).1) hpw (fun u _ b _ h=>by simp at h)
  refine ⟨_,G2,_,H2,g+rs.length,⟨rfl,rfl,fun i hi=>(q2 i hi).1,q5,q3⟩,h1,q1.hp,⟨q3,by omega,fun i hi hn=>by rw [(q2 i hi).1];exact hn⟩,q1.ext gw,?_⟩
  have hF:=hfill G2 H2 w' (zra g ms rs) (by rw [zj7 g ms rs hm,ht]) q6
  exact .agg _ vs (by have:=hF.1;simpa using this) hone fun i c x hc hx=>hF.2 i c x hc (by simpa using hx)
def ziN (L:BL):List Nat->List Nat->List RD->Prop
 | j::js,n::ns,r::rs=>(∃m,L[n]?=some (j,.row r.1 m)/\m=r.2.2.length)/\ziN L js ns rs
 | [],[],[]=>True
 | _,_,_=>False
theorem ziN.get {L:BL}:∀(js ns:List Nat) (rs:List RD),ziN L js ns rs->js.length=rs.length/\js.length=ns.length/\∀(t j n:Nat) (r:RD),js[t]?=some j->ns[t]?=some n->rs[t]?=some r->L[n]?=some (j,.row r.1 r.2.2.length)
 | j::js,n::ns,r::rs,h=>by
  obtain ⟨⟨m,h1,rfl⟩,h2⟩:=h
  obtain ⟨a,b,c⟩:=ziN.get js ns rs h2
  refine ⟨by simpa using a,by simpa using b,fun t j' n' r' q1 q2 q3=>?_⟩
  cases t with
  | zero=>simp at q1 q2 q3;subst q1 q2 q3;exact h1
  | succ t=>exact c t j' n' r' (by simpa using q1) (by simpa using q2) (by simpa using q3)
 | [],[],[],_=>⟨rfl,rfl,fun t j n r h=>by simp at h⟩
 | [],_::_,_,h=>h.elim
 | [],[],_::_,h=>h.elim
 | _::_,[],_,h=>h.elim
 | _::_,_::_,[],h=>h.elim
theorem ziN.nil {L:BL}:ziN L [] [] []:=trivial
theorem ziN.cons {L:BL} {j n e k m:Nat} {es:List (List AV)} {js ns:List Nat} {rs:List RD} (h:L[n]?=some (j,.row e m)) (hm:m=es.length) (t:ziN L js ns rs):ziN L (j::js) (n::ns) ((e,k,es)::rs):=⟨⟨m,h,hm⟩,t⟩
section
variable {P:Program} {N:Nat} {l:List (Nat×AV)} {H:zaa} {g:Nat} {lim:Option Nat} {g0 i:Nat} {ops:Array Oper} {K:Fr->zaa->Nat->Prop} {r:List Oper} {d:Nat} {ty:TypeId} {pos:String} {after:Array Edge}
 {O:Nat->Prop} {H0:zaa} {L A B C D E:BL} {b bd:Nat}
end
end Go.AM
