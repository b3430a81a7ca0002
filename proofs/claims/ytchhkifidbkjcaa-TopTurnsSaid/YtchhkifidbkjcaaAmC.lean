/-
  The abstract machine: what a step of the model's world does to what the abstract heap stands for.
  Conditions: none; it speaks of any program.
-/
import Derived.Test.YtchhkifidbkjcaaAmB
set_option linter.all false
namespace Go.AM
open Go Go.RowKit
def Gh.atφ (G:Gh) (i b:Nat):Gh:={ G with φ:=fun j=>if j=i then b else G.φ j }
def Gh.atC (G:Gh) (i b n:Nat):Gh:={ G.atφ i b with sz:=fun j=>if j=i then n else G.sz j }
def Gh.atσ (G:Gh) (i:Nat) (v:Value) (k:Nat):Gh:={ G with σ:=fun j=>if j=i then v else G.σ j,sz:=fun j=>if j=i then k else G.sz j }
theorem zaa.set_cases {H:zaa} {i j:Nat} {b x:Blk} (h:(H.set i b) j=some x):(j=i/\x=b)\/(j≠i/\H j=some x):=by
 unfold zaa.set at h
 by_cases hj:j=i
 ·rw [if_pos hj] at h
  exact .inl ⟨hj,by injection h with h;exact h.symm⟩
 ·rw [if_neg hj] at h
  exact .inr ⟨hj,h⟩
theorem zbk {H:zaa} {i j:Nat} {b:Blk} (hn:H i=none) (hs:H j=some b):j≠i:=by
 rintro rfl
 rw [hn] at hs
 cases hs
theorem zaa.cel_put {H:zaa} {i j:Nat} {ds:List AV} (h:H.cel j):(H.set i (.cells ds)).cel j:=by
 by_cases e:j=i
 ·subst e;exact .inl ⟨ds,zaa.set_same _ _ _⟩
 ·unfold zaa.cel;rw [zaa.set_ne _ _ e];exact h
theorem zaa.cel_row {H:zaa} {i j:Nat} {b:Blk} {e:TypeId} {n:Nat} (h:H.cel j) (hn:H i=some (.row e n)):(H.set i b).cel j:=by
 have e:j≠i:=fun e=>by subst e;rcases h with ⟨cs,h⟩ | h<;>(rw [hn] at h;cases h)
 unfold zaa.cel;rw [zaa.set_ne _ _ e];exact h
theorem zaa.cel_obj {H:zaa} {i j:Nat} {b:Blk} {k:Option Loop} {p:Obj->Prop} (h:H.cel j) (hn:H i=some (.obj k p)):(H.set i b).cel j:=by
 have e:j≠i:=fun e=>by subst e;rcases h with ⟨cs,h⟩ | h<;>(rw [hn] at h;cases h)
 unfold zaa.cel;rw [zaa.set_ne _ _ e];exact h
theorem zaa.cel_mono {H H':zaa} {j:Nat} (hH:∀x,H j=some x->H' j=some x) (h:H.cel j):H'.cel j:=by
 rcases h with ⟨cs,h⟩ | h
 ·exact .inl ⟨cs,hH _ h⟩
 ·exact .inr (hH _ h)
section
variable {G:Gh} {H:zaa} {w w':World}
theorem zne (hp:Hp G H w) (hh:w'.heap=w.heap) (ho:w'.os=w.os) (ht:w'.tape=w.tape) (hu:w'.output=w.output):Hp G H w'/\Ext G H w G H w':=by
 have E:Evo G H w G H w':=.of_grow (fun b _=>by rw [hh]) (fun i x h=>⟨h,rfl,rfl,rfl⟩) (fun i x h=>.inl h)
 refine ⟨⟨fun i cs hi=>?_,fun i d n hi=>?_,hp.inj,hp.sep,hp.own,fun i k p hi=>by rw [hh];exact hp.objs i k p hi,hp.oinj,hp.lo_le (by rw [hh];exact Nat.le_refl _)⟩,⟨E,ho,ht,hu,by rw [hh];exact Nat.le_refl _,fun b _ _=>by rw [hh],fun b h=>.inl h⟩⟩
 ·obtain ⟨vs,ty,hg,hs,h1,hv⟩:=hp.cells i cs hi
  exact ⟨vs,ty,by rw [hh];exact hg,hs,h1,fun j c x hc hx=>(hv j c x hc hx).evo E⟩
 ·obtain ⟨hz,xs,hown⟩:=hp.rows i d n hi
  refine ⟨hz,xs,hown.1,hown.2.imp id ?_⟩
  rintro ⟨g,cap,cur,h1,h2,h3,h4⟩
  exact ⟨g,cap,cur,h1,h2,by rw [hh];exact h3,h4⟩
theorem zgv (hp:Hp G H w) {new:Nat} (hn:H new=none) {cs:List AV} {vs:Array Value} {ty:TypeId} (hl:vs.size=cs.length) (h1:∀x,x∈vs->x.oneCell'=true)
  (hv:∀(j:Nat) (c:AV) (x:Value),cs[j]?=some c->vs[j]?=some x->VR G H w c x) :
  Hp (G.atC new w.heap.size vs.size) (H.set new (.cells cs)) (w.alloc (.cells vs ty)) /\
  Ext G H w (G.atC new w.heap.size vs.size) (H.set new (.cells cs)) (w.alloc (.cells vs ty)) /\
  VR (G.atC new w.heap.size vs.size) (H.set new (.cells cs)) (w.alloc (.cells vs ty)) (.ptr new 0) (.pointer (some ⟨w.heap.size,0,none⟩)):=by
 have hφ:∀i,i≠new->(G.atC new w.heap.size vs.size).φ i=G.φ i:=fun i h=>by simp [Gh.atC,Gh.atφ,h]
 have hφn:(G.atC new w.heap.size vs.size).φ new=w.heap.size:=by simp [Gh.atC,Gh.atφ]
 have hz:∀i,i≠new->(G.atC new w.heap.size vs.size).sz i=G.sz i:=fun i h=>by simp [Gh.atC,h]
 have hzn:(G.atC new w.heap.size vs.size).sz new=vs.size:=by simp [Gh.atC]
 have hb:∀b,b<w.heap.size->(w.alloc (.cells vs ty)).heap[b]?=w.heap[b]?:=fun b hb=>heap_alloc_old w _ hb
 have hH:∀i x,H i=some x->(H.set new (.cells cs)) i=some x:=fun i x h=>by rw [zaa.set_ne _ _ (zbk hn h)];exact h
 have E:Evo G H w (G.atC new w.heap.size vs.size) (H.set new (.cells cs)) (w.alloc (.cells vs ty)):=by
  refine .of_grow hb (fun i x h=>⟨hH i x h,hφ i (zbk hn h),rfl,hz i (zbk hn h)⟩) (fun i x h=>?_)
  rcases zaa.set_cases h with ⟨rfl,rfl⟩ | ⟨_,h⟩
  ·exact .inr ⟨fun _ _=>by rw [hφn];exact Nat.le_refl _,fun e n h=>by cases h⟩
  ·exact .inl h
 have hlt:∀i ds,H i=some (.cells ds)->G.φ i<w.heap.size:=fun i ds h=>hp.lt (.inl ⟨i,ds,h,rfl⟩)
 refine ⟨⟨fun i ds hi=>?_,fun i d n hi=>?_,fun i j ds es hi hj he=>?_,fun i j ds d n hi hj=>?_,fun i j d m d' n b hi hj h1 h2=>?_,fun i k p hi=>?_,fun i j k k' p q hi hj he=>?_,hp.lo_le (by simp)⟩,⟨E,rfl,rfl,rfl,by simp,fun b hlt _=>hb b hlt,fun b h=>?_⟩,?_⟩
 ·rcases zaa.set_cases hi with ⟨rfl,h⟩ | ⟨hne,h⟩
  ·injection h with h
   subst h
   exact ⟨vs,ty,by rw [hφn];exact heap_alloc_new w _,⟨Nat.le_of_eq hl.symm,hzn.symm⟩,fun j x _ hx=>h1 x (Array.mem_of_getElem? hx),fun j c x hc hx=>(hv j c x hc hx).evo E⟩
  ·obtain ⟨us,tu,hg,hs,h1',hv'⟩:=hp.cells i ds h
   exact ⟨us,tu,by rw [hφ i hne,hb _ (hlt i ds h)];exact hg,⟨hs.1,by rw [hz i hne];exact hs.2⟩,h1',fun j c x hc hx=>(hv' j c x hc hx).evo E⟩
 ·rcases zaa.set_cases hi with ⟨rfl,h⟩ | ⟨hne,h⟩
  ·cases h
  ·obtain ⟨hz',xs,hown⟩:=hp.rows i d n h
   rw [hz i hne]
   exact ⟨hz',xs,hown.alloc _⟩
 ·rcases zaa.set_cases hi with ⟨rfl,_⟩ | ⟨hne,h⟩<;>rcases zaa.set_cases hj with ⟨rfl,_⟩ | ⟨hne',h'⟩
  ·rfl
  ·rw [hφn,hφ j hne'] at he
   have:=hlt j _ h'
   omega
  ·rw [hφn,hφ i hne] at he
   have:=hlt i _ h
   omega
  ·rw [hφ i hne,hφ j hne'] at he
   exact hp.inj i j _ _ h h' he
 ·rcases zaa.set_cases hj with ⟨_,h'⟩ | ⟨_,h'⟩
  ·cases h'
  ·rcases zaa.set_cases hi with ⟨rfl,_⟩ | ⟨hne,h⟩
   ·rw [hφn]
    intro e
    have:=hp.lt (.inr (.inl ⟨j,d,n,h',e⟩))
    omega
   ·rw [hφ i hne]
    exact hp.sep i j ds d n h h'
 ·rcases zaa.set_cases hi with ⟨_,h⟩ | ⟨_,h⟩
  ·cases h
  ·rcases zaa.set_cases hj with ⟨_,h'⟩ | ⟨_,h'⟩
   ·cases h'
   ·exact hp.own i j d m d' n b h h' h1 h2
 ·rcases zaa.set_cases hi with ⟨_,h⟩ | ⟨hne,h⟩
  ·cases h
  ·obtain ⟨o,ho,h2,h3⟩:=hp.objs i _ p h
   exact ⟨o,by rw [hφ i hne,hb _ (hp.lt (.inr (.inr ⟨i,_,p,h,rfl⟩)))];exact ho,h2,h3⟩
 ·rcases zaa.set_cases hi with ⟨_,h⟩ | ⟨hne,h⟩
  ·cases h
  ·rcases zaa.set_cases hj with ⟨_,h'⟩ | ⟨hne',h'⟩
   ·cases h'
   ·rw [hφ i hne,hφ j hne'] at he
    exact hp.oinj i j _ _ p q h h' he
 ·rcases h with ⟨i,ds,hi,rfl⟩ | ⟨i,d,n,hi,h⟩ | ⟨i,k,p,hi,rfl⟩
  ·rcases zaa.set_cases hi with ⟨rfl,_⟩ | ⟨hne,h⟩
   ·exact .inr (by rw [hφn];exact Nat.le_refl _)
   ·exact .inl (.inl ⟨i,ds,h,(hφ i hne).symm⟩)
  ·rcases zaa.set_cases hi with ⟨_,h'⟩ | ⟨_,h'⟩
   ·cases h'
   ·exact .inl (.inr (.inl ⟨i,d,n,h',h⟩))
  ·rcases zaa.set_cases hi with ⟨_,h'⟩ | ⟨hne,h'⟩
   ·cases h'
   ·exact .inl (.inr (.inr ⟨i,_,p,h',(hφ i hne).symm⟩))
 ·have:=VR.ptr (G:=G.atC new w.heap.size vs.size) (w:=w.alloc (.cells vs ty)) new 0 (.inl ⟨cs,zaa.set_same H new (.cells cs)⟩)
  rwa [hφn] at this
structure RowVR (G:Gh) (H:zaa) (w:World) (k:Nat) (es:List (List AV)) (xs:List Value):Prop where
 len:xs.length=es.length*k
 each:∀e,e∈es->e.length=k
 one:∀x,x∈xs->x.oneCell'=true
 vr:∀(i j:Nat) (e:List AV) (c:AV) (x:Value),es[i]?=some e->e[j]?=some c->xs[i*k+j]?=some x->VR G H w c x
theorem RowVR.evo {G':Gh} {H':zaa} (E:Evo G H w G' H' w') {k:Nat} {es:List (List AV)} {xs:List Value} (h:RowVR G H w k es xs):RowVR G' H' w' k es xs :=
 ⟨h.len,h.each,h.one,fun i j e c x hi hj hx=>(h.vr i j e c x hi hj hx).evo E⟩
theorem RowVR.nil (k:Nat):RowVR G H w k [] []:=⟨by simp,fun e h=>by simp at h,fun x h=>by simp at h,fun i j e c x h=>by simp at h⟩
theorem RowVR.append {k:Nat} {es fs:List (List AV)} {xs ys:List Value} (h:RowVR G H w k es xs) (h':RowVR G H w k fs ys):RowVR G H w k (es++fs) (xs++ys):=by
 refine ⟨by simp [h.len,h'.len,Nat.add_mul],fun e he=>?_,fun x hx=>?_,fun i j e c x hi hj hx=>?_⟩
 ·rcases List.mem_append.1 he with he | he
  ·exact h.each e he
  ·exact h'.each e he
 ·rcases List.mem_append.1 hx with hx | hx
  ·exact h.one x hx
  ·exact h'.one x hx
 ·by_cases hlt:i<es.length
  ·rw [List.getElem?_append_left hlt] at hi
   have hjk:j<k:=by rw [←h.each e (List.mem_of_getElem? hi)];exact (List.getElem?_eq_some_iff.1 hj).1
   have hm:(i+1)*k<=es.length*k:=Nat.mul_le_mul_right _ hlt
   rw [Nat.add_mul] at hm
   rw [List.getElem?_append_left (by rw [h.len];omega)] at hx
   exact h.vr i j e c x hi hj hx
  ·rw [List.getElem?_append_right (by omega)] at hi
   have hm:es.length*k<=i*k:=Nat.mul_le_mul_right _ (by omega)
   rw [List.getElem?_append_right (by rw [h.len];omega),h.len] at hx
   refine h'.vr (i-es.length) j e c x hi hj ?_
   rw [←hx,Nat.sub_mul]
   congr 1
   omega
theorem VR.row {t:Tag} {k:Nat} {es:List (List AV)} {v:Value} (h:VR G H w (.sl t k es) v):∃a cap xs,v=.slice a es.length cap/\es.length<=cap/\RowVR G H w k es xs/\zp4 G H w t k es.length cap (.slice a es.length cap) /\
  (es≠[]->∃b o,a=some ⟨b,o,none⟩/\0<k/\zis G H b (o+es.length*k)/\∀j u,xs[j]?=some u->w.cell? ((⟨b,o,none⟩:Addr).add j)=some u):=by
 cases h with
 | sl _ _ _ a cap b o f hcap hs ha hc hv ht =>
  by_cases hne:es=[]
  ·subst hne
   exact ⟨a,cap,[],rfl,hcap,RowVR.nil k,ht,fun h=>absurd rfl h⟩
  ·obtain ⟨hpos,ha1,hfr⟩:=ha hne
   have hget:∀m,m<es.length*k->((List.range (es.length*k)).map fun m=>f (m / k) (m % k))[m]?=some (f (m / k) (m % k)):=fun m hm=>by simp [hm]
   have hcell:∀m,m<es.length*k->w.cell? ⟨b,o+m,none⟩=some (f (m / k) (m % k))/\(f (m / k) (m % k)).oneCell'=true:=fun m hm=>by
    have hi:m / k<es.length:=Nat.div_lt_of_lt_mul (by rw [Nat.mul_comm];exact hm)
    have hj:m % k<es[m / k].length:=by rw [hs _ (List.getElem_mem hi)];exact Nat.mod_lt _ hpos
    have:=hc (m / k) (m % k) es[m / k] es[m / k][m % k] (List.getElem?_eq_getElem hi) (List.getElem?_eq_getElem hj)
    have hm':o+m / k*k+m % k=o+m:=by have:=Nat.div_add_mod m k;rw [Nat.mul_comm] at this;omega
    rwa [hm'] at this
   refine ⟨a,cap,(List.range (es.length*k)).map fun m=>f (m / k) (m % k),rfl,hcap,⟨by simp,hs,fun x hx=>?_,fun i j e c x hi hj hx=>?_⟩,ht,fun _=>⟨b,o,ha1,hpos,hfr,fun j u hu=>?_⟩⟩
   ·obtain ⟨m,hm,rfl⟩:=List.mem_map.1 hx
    exact (hcell m (List.mem_range.1 hm)).2
   ·have hi':=(List.getElem?_eq_some_iff.1 hi).1
    have hj':j<k:=by rw [←hs e (List.mem_of_getElem? hi)];exact (List.getElem?_eq_some_iff.1 hj).1
    have hm:(i+1)*k<=es.length*k:=Nat.mul_le_mul_right _ hi'
    rw [Nat.add_mul] at hm
    rw [hget _ (by omega)] at hx
    injection hx with hx
    rw [←hx,show (i*k+j) / k=i by rw [Nat.mul_comm,Nat.mul_add_div hpos,Nat.div_eq_of_lt hj',Nat.add_zero],show (i*k+j) % k=j by rw [Nat.mul_comm,Nat.mul_add_mod,Nat.mod_eq_of_lt hj']]
    exact hv i j e c hi hj
   ·have hj:j<es.length*k:=by have:=(List.getElem?_eq_some_iff.1 hu).1;simpa using this
    rw [hget j hj] at hu
    rw [←hu,Addr.add_mid]
    exact (hcell j hj).1
theorem Hp.row_vr (hp:Hp G H w) {τ:Nat} {e:TypeId} {es:List (List AV)} {xs:List Value} (hτ:H τ=some (.row e es.length)) (hz:0<G.sz τ)
  (hown:w.ownsRow 0 e (G.sz τ) (G.σ τ) es.length xs) (hr:RowVR G H w (G.sz τ) es xs):VR G H w (.sl (.id τ) (G.sz τ) es) (G.σ τ):=by
 have htag:∀len cap x,x=G.σ τ->len=es.length->zp4 G H w (.id τ) (G.sz τ) len cap x:=fun len cap x h1 h2=>⟨e,es.length,hτ,rfl,by omega,fun _=>h1⟩
 rcases hown.2 with ⟨hv,hn⟩ | ⟨g,cap,cur,hv,_,hg,hnc,_,hcs,htake⟩
 ·have hne:es=[]:=List.eq_nil_of_length_eq_zero hn
  subst hne
  have:=VR.sl (G:=G) (H:=H) (w:=w) (.id τ) (G.sz τ) [] none 0 0 0 (fun _ _=>undef) (by simp) (fun e h=>by simp at h) (fun h=>absurd rfl h) (fun i j e c h=>by simp at h) (fun i j e c h=>by simp at h) (htag _ _ _ hv.symm rfl)
  rw [hv]
  exact this
 ·have hcell:∀j,j<es.length*G.sz τ->∃x,xs[j]?=some x/\w.cell? ⟨g,j,none⟩=some x:=fun j hj=>by
   have hl:j<xs.length:=by rw [hown.1];exact hj
   refine ⟨xs[j],List.getElem?_eq_getElem hl,?_⟩
   have:=hown.cells (g:=g) (by rw [hv];rfl) j xs[j] (List.getElem?_eq_getElem hl)
   rwa [Addr.add_mid,Nat.zero_add] at this
  have:=VR.sl (G:=G) (H:=H) (w:=w) (.id τ) (G.sz τ) es (some ⟨g,0,none⟩) cap g 0 (fun i j=>xs.getD (i*G.sz τ+j) undef) hnc hr.each
   (fun _=>⟨hz,rfl,fun i cs hi e=>hp.sep i τ cs _ _ hi hτ (by rw [hv,e];rfl),fun i d m hi he=>?_⟩)
   (fun i j e c hi hj=>?_) (fun i j e c hi hj=>?_) (htag _ _ _ hv.symm rfl)
  ·rw [hv]
   exact this
  ·have:i=τ:=hp.own i τ d m _ _ g hi hτ he (by rw [hv];rfl)
   subst this
   rw [hτ] at hi
   injection hi with hi
   injection hi with _ hi
   rw [hi,Nat.zero_add]
   exact Nat.le_refl _
  all_goals
   have hi':=(List.getElem?_eq_some_iff.1 hi).1
   have hj':j<G.sz τ:=by rw [←hr.each e (List.mem_of_getElem? hi)];exact (List.getElem?_eq_some_iff.1 hj).1
   have hm:(i+1)*G.sz τ<=es.length*G.sz τ:=Nat.mul_le_mul_right _ hi'
   rw [Nat.add_mul] at hm
   obtain ⟨x,hx,hc⟩:=hcell (i*G.sz τ+j) (by omega)
   simp only [List.getD_eq_getElem?_getD,hx,Option.getD_some,Nat.zero_add]
  ·exact ⟨hc,hr.one x (List.mem_of_getElem? hx)⟩
  ·exact hr.vr i j e c x hi hj hx
theorem zh9 (hp:Hp G H w) {new:Nat} (hn:H new=none) {e:TypeId} {k:Nat} {v:Value} {es:List (List AV)} {xs:List Value} (hk:0<k)
  (hb:∀b,b<w.heap.size->w'.heap[b]?=w.heap[b]?) (hs:w.heap.size<=w'.heap.size) (ho:w'.os=w.os) (ht:w'.tape=w.tape) (hu:w'.output=w.output)
  (hown:w'.ownsRow 0 e k v es.length xs) (hge:∀b,v.ownBlock=some b->w.heap.size<=b) (hr:RowVR G H w k es xs) :
  Hp (G.atσ new v k) (H.set new (.row e es.length)) w'/\Ext G H w (G.atσ new v k) (H.set new (.row e es.length)) w'/\VR (G.atσ new v k) (H.set new (.row e es.length)) w' (.sl (.id new) k es) v:=by
 have hσ:∀i,i≠new->(G.atσ new v k).σ i=G.σ i/\(G.atσ new v k).sz i=G.sz i:=fun i h=>by simp [Gh.atσ,h]
 have hσn:(G.atσ new v k).σ new=v/\(G.atσ new v k).sz new=k:=by simp [Gh.atσ]
 have hH:∀i x,H i=some x->(H.set new (.row e es.length)) i=some x:=fun i x h=>by rw [zaa.set_ne _ _ (zbk hn h)];exact h
 have E:Evo G H w (G.atσ new v k) (H.set new (.row e es.length)) w':=by
  refine .of_grow hb (fun i x h=>⟨hH i x h,rfl,(hσ i (zbk hn h)).1,(hσ i (zbk hn h)).2⟩) (fun i x h=>?_)
  rcases zaa.set_cases h with ⟨rfl,rfl⟩ | ⟨_,h⟩
  ·exact .inr ⟨fun _ h=>(by cases h),fun _ n _ b hb=>(by rw [hσn.1] at hb;exact hge b hb)⟩
  ·exact .inl h
 have hlt:∀i ds,H i=some (.cells ds)->G.φ i<w.heap.size:=fun i ds h=>hp.lt (.inl ⟨i,ds,h,rfl⟩)
 have hp':Hp (G.atσ new v k) (H.set new (.row e es.length)) w':=by
  refine ⟨fun i ds hi=>?_,fun i d n hi=>?_,fun i j ds fs hi hj he=>?_,fun i j ds d n hi hj=>?_,fun i j d m d' n b hi hj h1 h2=>?_,fun i k p hi=>?_,fun i j k k' p q hi hj he=>?_,hp.lo_le hs⟩
  ·rcases zaa.set_cases hi with ⟨rfl,h⟩ | ⟨hne,h⟩
   ·cases h
   ·obtain ⟨us,tu,hg,hs,h1',hv'⟩:=hp.cells i ds h
    exact ⟨us,tu,by show w'.heap[G.φ i]?=_;rw [hb _ (hlt i ds h)];exact hg,⟨hs.1,by rw [(hσ i hne).2];exact hs.2⟩,h1',fun j c x hc hx=>(hv' j c x hc hx).evo E⟩
  ·rcases zaa.set_cases hi with ⟨rfl,h⟩ | ⟨hne,h⟩
   ·injection h with h0 h
    subst h h0
    rw [hσn.1,hσn.2]
    exact ⟨hk,xs,hown⟩
   ·obtain ⟨hz,ys,h1,h2⟩:=hp.rows i d n h
    rw [(hσ i hne).1,(hσ i hne).2]
    refine ⟨hz,ys,h1,h2.imp id ?_⟩
    rintro ⟨g,cap,cur,a1,a2,a3,a4⟩
    exact ⟨g,cap,cur,a1,a2,by rw [hb g (Array.getElem?_eq_some_iff.1 a3).1];exact a3,a4⟩
  ·rcases zaa.set_cases hi with ⟨rfl,h⟩ | ⟨hne,h⟩
   ·cases h
   ·rcases zaa.set_cases hj with ⟨rfl,h'⟩ | ⟨hne',h'⟩
    ·cases h'
    ·exact hp.inj i j _ _ h h' he
  ·rcases zaa.set_cases hi with ⟨rfl,h⟩ | ⟨hne,h⟩
   ·cases h
   ·rcases zaa.set_cases hj with ⟨rfl,_⟩ | ⟨hne',h'⟩
    ·rw [hσn.1]
     intro e
     have:=hge _ e
     have:=hlt i ds h
     change w.heap.size<=G.φ i at *
     omega
    ·rw [(hσ j hne').1]
     exact hp.sep i j ds d n h h'
  ·rcases zaa.set_cases hi with ⟨rfl,_⟩ | ⟨hne,h⟩<;>rcases zaa.set_cases hj with ⟨rfl,_⟩ | ⟨hne',h'⟩
   ·rfl
   ·rw [hσn.1] at h1
    rw [(hσ j hne').1] at h2
    have:=hge b h1
    have:=hp.lt (.inr (.inl ⟨j,d',n,h',h2⟩))
    omega
   ·rw [hσn.1] at h2
    rw [(hσ i hne).1] at h1
    have:=hge b h2
    have:=hp.lt (.inr (.inl ⟨i,d,m,h,h1⟩))
    omega
   ·rw [(hσ i hne).1] at h1
    rw [(hσ j hne').1] at h2
    exact hp.own i j d m d' n b h h' h1 h2
  ·rcases zaa.set_cases hi with ⟨_,h⟩ | ⟨hne,h⟩
   ·cases h
   ·obtain ⟨o,ho,h2,h3⟩:=hp.objs i _ p h
    exact ⟨o,by show w'.heap[G.φ i]?=_;rw [hb _ (hp.lt (.inr (.inr ⟨i,_,p,h,rfl⟩)))];exact ho,h2,h3⟩
  ·rcases zaa.set_cases hi with ⟨_,h⟩ | ⟨hne,h⟩
   ·cases h
   ·rcases zaa.set_cases hj with ⟨_,h'⟩ | ⟨hne',h'⟩
    ·cases h'
    ·exact hp.oinj i j _ _ p q h h' he
 refine ⟨hp',⟨E,ho,ht,hu,hs,fun b hlt _=>hb b hlt,fun b h=>?_⟩,?_⟩
 ·rcases h with ⟨i,ds,hi,rfl⟩ | ⟨i,d,n,hi,h⟩ | ⟨i,k,p,hi,rfl⟩
  ·rcases zaa.set_cases hi with ⟨rfl,h⟩ | ⟨hne,h⟩
   ·cases h
   ·exact .inl (.inl ⟨i,ds,h,rfl⟩)
  ·rcases zaa.set_cases hi with ⟨rfl,_⟩ | ⟨hne,h'⟩
   ·rw [hσn.1] at h
    exact .inr (hge b h)
   ·rw [(hσ i hne).1] at h
    exact .inl (.inr (.inl ⟨i,d,n,h',h⟩))
  ·rcases zaa.set_cases hi with ⟨_,h'⟩ | ⟨hne,h'⟩
   ·cases h'
   ·exact .inl (.inr (.inr ⟨i,_,p,h',rfl⟩))
 ·have:=hp'.row_vr (τ:=new) (e:=e) (es:=es) (xs:=xs) (zaa.set_same _ _ _) (by rw [hσn.2];exact hk) (by rw [hσn.1,hσn.2];exact hown) (by rw [hσn.2];exact hr.evo E)
  rwa [hσn.1,hσn.2] at this
theorem zki (hp:Hp G H w) {i:Nat} {cs ds:List AV} {us vs:Array Value} {ty:TypeId} (hi:H i=some (.cells cs)) (hg:w.heap[G.φ i]?=some (.cells us ty (0,0)))
  (hl:ds.length<=vs.size) (hvu:vs.size=us.size) (h1:∀(j:Nat) (x:Value),j<ds.length->vs[j]?=some x->x.oneCell'=true) (hv:∀(j:Nat) (c:AV) (x:Value),ds[j]?=some c->vs[j]?=some x->VR G H w c x) :
  Hp G (H.set i (.cells ds)) (w.setRow (G.φ i) vs)/\Ext G H w G (H.set i (.cells ds)) (w.setRow (G.φ i) vs):=by
 have hkind:∀j x,(H.set i (.cells ds)) j=some x->∃y,H j=some y/\((∃a b,x=.cells a/\y=.cells b)\/x=y):=fun j x h=>by
  rcases zaa.set_cases h with ⟨rfl,rfl⟩ | ⟨_,h⟩
  ·exact ⟨_,hi,.inl ⟨_,_,rfl,rfl⟩⟩
  ·exact ⟨x,h,.inr rfl⟩
 have hcell:∀j a,(H.set i (.cells ds)) j=some (.cells a)->∃b,H j=some (.cells b):=fun j a h=>by
  obtain ⟨y,hy,h | h⟩:=hkind j _ h
  ·obtain ⟨_,b,_,rfl⟩:=h
   exact ⟨b,hy⟩
  ·subst h
   exact ⟨a,hy⟩
 have hrow:∀j d n,(H.set i (.cells ds)) j=some (.row d n)->H j=some (.row d n):=fun j d n h=>by
  obtain ⟨y,hy,h | h⟩:=hkind j _ h
  ·obtain ⟨_,b,h,_⟩:=h
   cases h
  ·subst h
   exact hy
 have hobj:∀j k p,(H.set i (.cells ds)) j=some (.obj k p)->H j=some (.obj k p):=fun j k p h=>by
  obtain ⟨y,hy,h | h⟩:=hkind j _ h
  ·obtain ⟨_,b,h,_⟩:=h
   cases h
  ·subst h
   exact hy
 have hb:∀b,b≠G.φ i->(w.setRow (G.φ i) vs).heap[b]?=w.heap[b]?:=fun b h=>setRow_other w _ b _ h
 have hsize:(w.setRow (G.φ i) vs).heap.size=w.heap.size:=by simp [World.setRow]
 have E:Evo G H w G (H.set i (.cells ds)) (w.setRow (G.φ i) vs):=by
  refine ⟨fun j h=>⟨rfl,zaa.cel_put h⟩,fun j d n h=>⟨rfl,n,?_,Nat.le_refl _,fun _=>rfl⟩,fun j _ p h=>⟨rfl,p,by rw [zaa.set_ne _ _ (fun e=>by subst e;rw [hi] at h;cases h)];exact h⟩,fun b n hf=>⟨fun k x _ hx=>?_,fun _=>⟨fun j a h e=>?_,fun j d m h e=>?_⟩⟩,rfl,fun b hF _ _ _ h=>(hb b (fun e=>(hF 0).1 i cs hi e.symm)).trans h⟩
  ·rw [zaa.set_ne _ _ (fun e=>by subst e;rw [hi] at h;cases h)]
   exact h
  ·rw [←hx]
   exact World.cell?_of_block (a:=⟨b,k,none⟩) (hb b (fun e=>hf.1 i cs hi e.symm))
  ·obtain ⟨b',h'⟩:=hcell j a h
   exact hf.1 j b' h' e
  ·exact hf.2 j d m (hrow j d m h) e
 refine ⟨⟨fun j a h=>?_,fun j d n h=>?_,fun j k a b hj hk he=>?_,fun j k a d n hj hk=>?_,fun j k d m d' n b hj hk=>hp.own j k d m d' n b (hrow j d m hj) (hrow k d' n hk),fun j _ p hj=>?_,fun j k _ _ p q hj hk=>hp.oinj j k _ _ p q (hobj j _ p hj) (hobj k _ q hk),hp.lo_le (by rw [hsize];exact Nat.le_refl _)⟩,⟨E,rfl,rfl,rfl,by rw [hsize];exact Nat.le_refl _,fun b _ hni=>hb b (fun e=>hni (.inl ⟨i,cs,hi,e.symm⟩)),fun b h=>.inl ?_⟩⟩
 ·by_cases hj:j=i
  ·subst hj
   rw [zaa.set_same] at h
   injection h with h
   injection h with h
   subst h
   exact ⟨vs,ty,setRow_heap w _ us vs ty (0,0) hg,⟨hl,by
    obtain ⟨us',ty',e1,e2,_⟩:=hp.cells _ cs hi
    rw [hg] at e1
    injection e1 with e1
    injection e1 with e1
    rw [hvu,e1,e2.2]⟩,h1,fun j c x hc hx=>(hv j c x hc hx).evo E⟩
  ·rw [zaa.set_ne _ _ hj] at h
   obtain ⟨xs,tx,hg',hs,h1',hv'⟩:=hp.cells j a h
   exact ⟨xs,tx,by rw [hb _ (fun e=>hj (hp.inj j i a cs h hi e))];exact hg',hs,h1',fun j c x hc hx=>(hv' j c x hc hx).evo E⟩
 ·have h':=hrow j d n h
  obtain ⟨hz,ys,a1,a2⟩:=hp.rows j d n h'
  refine ⟨hz,ys,a1,a2.imp id ?_⟩
  rintro ⟨g,cap,cur,b1,b2,b3,b4⟩
  exact ⟨g,cap,cur,b1,b2,by rw [hb g (fun e=>hp.sep i j cs d n hi h' (by rw [b1,←e];rfl))];exact b3,b4⟩
 ·obtain ⟨a',ha⟩:=hcell j a hj
  obtain ⟨b',hb'⟩:=hcell k b hk
  exact hp.inj j k a' b' ha hb' he
 ·obtain ⟨a',ha⟩:=hcell j a hj
  exact hp.sep j k a' d n ha (hrow k d n hk)
 ·obtain ⟨o,ho,h2,h3⟩:=hp.objs j _ p (hobj j _ p hj)
  refine ⟨o,?_,h2,h3⟩
  rw [hb _ (fun e=>by rw [e,hg] at ho;injection ho with ho;exact h3 _ _ _ ho.symm)]
  exact ho
 ·rcases h with ⟨j,a,hj,rfl⟩ | ⟨j,d,n,hj,h⟩ | ⟨j,k,p,hj,rfl⟩
  ·obtain ⟨a',ha⟩:=hcell j a hj
   exact .inl ⟨j,a',ha,rfl⟩
  ·exact .inr (.inl ⟨j,d,n,hrow j d n hj,h⟩)
  ·exact .inr (.inr ⟨j,k,p,hobj j k p hj,rfl⟩)
theorem ztl (hp:Hp G H w) {τ n:Nat} {e:TypeId} {v':Value} {es:List (List AV)} {zs ys:List Value} (hτ:H τ=some (.row e n)) (hlt:n<es.length)
  (hown0:w.ownsRow 0 e (G.sz τ) (G.σ τ) n zs) (hz:0<G.sz τ)
  (hs:w.heap.size<=w'.heap.size) (ho:w'.os=w.os) (ht:w'.tape=w.tape) (hu:w'.output=w.output)
  (hown:w'.ownsRow 0 e (G.sz τ) v' es.length (zs++ys)) (hr:RowVR G H w (G.sz τ) es (zs++ys))
  (hb:((G.σ τ).ownBlock=v'.ownBlock/\∀b,b<w.heap.size->some b≠v'.ownBlock->w'.heap[b]?=w.heap[b]?)\/(v'.ownBlock=some w.heap.size/\∀b,b<w.heap.size->w'.heap[b]?=w.heap[b]?)) :
  Hp (G.atσ τ v' (G.sz τ)) (H.set τ (.row e es.length)) w'/\Ext G H w (G.atσ τ v' (G.sz τ)) (H.set τ (.row e es.length)) w' /\
  VR (G.atσ τ v' (G.sz τ)) (H.set τ (.row e es.length)) w' (.sl (.id τ) (G.sz τ) es) v':=by
 have hσ:∀i,i≠τ->(G.atσ τ v' (G.sz τ)).σ i=G.σ i:=fun i h=>by simp [Gh.atσ,h]
 have hsz:∀i,(G.atσ τ v' (G.sz τ)).sz i=G.sz i:=fun i=>by
  by_cases h:i=τ
  ·subst h;simp [Gh.atσ]
  ·simp [Gh.atσ,h]
 have hσn:(G.atσ τ v' (G.sz τ)).σ τ=v':=by simp [Gh.atσ]
 have hcell:∀j a,(H.set τ (.row e es.length)) j=some (.cells a)->H j=some (.cells a):=fun j a h=>by
  rcases zaa.set_cases h with ⟨_,h2⟩ | ⟨_,h2⟩
  ·cases h2
  ·exact h2
 have hobj:∀j k p,(H.set τ (.row e es.length)) j=some (.obj k p)->H j=some (.obj k p):=fun j k a h=>by
  rcases zaa.set_cases h with ⟨_,h2⟩ | ⟨_,h2⟩
  ·cases h2
  ·exact h2
 have hrow:∀j d m,(H.set τ (.row e es.length)) j=some (.row d m)->(j=τ/\d=e/\m=es.length)\/(j≠τ/\H j=some (.row d m)):=fun j d m h=>by
  rcases zaa.set_cases h with ⟨h1,h2⟩ | ⟨hne,h2⟩
  ·injection h2 with h0 h2
   exact .inl ⟨h1,h0,h2⟩
  ·exact .inr ⟨hne,h2⟩
 have hold:∀b,b<w.heap.size->(G.σ τ).ownBlock≠some b->w'.heap[b]?=w.heap[b]?:=fun b hlt hne=>by
  rcases hb with ⟨h1,h2⟩ | ⟨_,h2⟩
  ·exact h2 b hlt (fun e=>hne (by rw [h1,e]))
  ·exact h2 b hlt
 have hnew:∀b,v'.ownBlock=some b->(G.σ τ).ownBlock=some b\/w.heap.size<=b:=fun b h=>by
  rcases hb with ⟨h1,_⟩ | ⟨h1,_⟩
  ·exact .inl (h1.trans h)
  ·rw [h1] at h
   injection h with h
   exact .inr (by omega)
 have hkeep:∀b,(G.σ τ).ownBlock=some b->∀k x,k<n*G.sz τ->w.cell? ⟨b,k,none⟩=some x->w'.cell? ⟨b,k,none⟩=some x:=fun b hbb k x hk hx=>by
  rcases hb with ⟨h1,_⟩ | ⟨_,h2⟩
  ·have hkz:k<zs.length:=by rw [hown0.1];exact hk
   have c1:=hown0.cells hbb k zs[k] (List.getElem?_eq_getElem hkz)
   have c2:=hown.cells (g:=b) (h1▸hbb) k zs[k] (by rw [List.getElem?_append_left hkz];exact List.getElem?_eq_getElem hkz)
   rw [Addr.add_mid,Nat.zero_add] at c1 c2
   rw [c1] at hx
   rw [c2,hx]
  ·rw [←hx]
   exact World.cell?_of_block (a:=⟨b,k,none⟩) (h2 b (zeP hx))
 have hwhole:∀b,(∀m,zis G H b m)->b<w.heap.size->w'.heap[b]?=w.heap[b]?:=fun b hF hlt'=>by
  rcases hb with ⟨h1,h2⟩ | ⟨_,h2⟩
  ·exact h2 b hlt' fun e=>by
    have:=(hF (n*G.sz τ+1)).2 τ _ n hτ (by rw [h1,←e])
    omega
  ·exact h2 b hlt'
 have E:Evo G H w (G.atσ τ v' (G.sz τ)) (H.set τ (.row e es.length)) w':=by
  refine ⟨fun i h=>⟨congrArg (Prod.mk _) (hsz i),zaa.cel_row h hτ⟩,fun i d m h=>⟨hsz i,?_⟩,fun i _ p h=>⟨rfl,p,by rw [zaa.set_ne _ _ (fun e=>by subst e;rw [hτ] at h;cases h)];exact h⟩,fun b m hf=>⟨fun k x hk hx=>?_,fun hlt'=>⟨fun i a h=>hf.1 i a (hcell i a h),fun i d m' h he=>?_⟩⟩,rfl,fun b hF _ _ _ h=>(hwhole b hF (Array.getElem?_eq_some_iff.1 h).1).trans h⟩
  ·by_cases hi:i=τ
   ·subst hi
    rw [hτ] at h
    injection h with h
    injection h with h0 h
    subst h0
    exact ⟨es.length,zaa.set_same _ _ _,by omega,fun e=>by omega⟩
   ·exact ⟨m,by rw [zaa.set_ne _ _ hi];exact h,Nat.le_refl _,fun _=>hσ i hi⟩
  ·by_cases hbb:(G.σ τ).ownBlock=some b
   ·exact hkeep b hbb k x (Nat.lt_of_lt_of_le hk (hf.2 τ e n hτ hbb)) hx
   ·rw [←hx]
    exact World.cell?_of_block (a:=⟨b,k,none⟩) (hold b (zeP hx) hbb)
  ·rw [hsz i]
   rcases hrow i d m' h with ⟨rfl,rfl,rfl⟩ | ⟨hne,h'⟩
   ·rw [hσn] at he
    rcases hnew b he with h1 | h1
    ·have h2:=hf.2 i _ n hτ h1
     have h3:n*G.sz i<=es.length*G.sz i:=Nat.mul_le_mul_right _ (by omega)
     omega
    ·omega
   ·rw [hσ i hne] at he
    exact hf.2 i d m' h' he
 have hp':Hp (G.atσ τ v' (G.sz τ)) (H.set τ (.row e es.length)) w':=by
  refine ⟨fun i a h=>?_,fun i d m h=>?_,fun i j a b hi hj he=>hp.inj i j a b (hcell i a hi) (hcell j b hj) he,fun i j a d m hi hj=>?_,fun i j d m d' m' b hi hj h1 h2=>?_,fun i k p hi=>?_,fun i j k k' p q hi hj=>hp.oinj i j k k' p q (hobj i k p hi) (hobj j k' q hj),hp.lo_le hs⟩
  ·have h':=hcell i a h
   obtain ⟨us,tu,hg,hs',h1',hv'⟩:=hp.cells i a h'
   exact ⟨us,tu,by show w'.heap[G.φ i]?=_;rw [hold _ (hp.lt (.inl ⟨i,a,h',rfl⟩)) (hp.sep i τ a e n h' hτ)];exact hg,⟨hs'.1,by rw [hsz i];exact hs'.2⟩,h1',fun j c x hc hx=>(hv' j c x hc hx).evo E⟩
  ·rw [hsz i]
   rcases hrow i d m h with ⟨rfl,rfl,rfl⟩ | ⟨hne,h'⟩
   ·rw [hσn]
    exact ⟨hz,_,hown⟩
   ·rw [hσ i hne]
    obtain ⟨hz',ys',a1,a2⟩:=hp.rows i d m h'
    refine ⟨hz',ys',a1,a2.imp id ?_⟩
    rintro ⟨g,cap,cur,b1,b2,b3,b4⟩
    refine ⟨g,cap,cur,b1,b2,?_,b4⟩
    rw [hold g (Array.getElem?_eq_some_iff.1 b3).1 (fun e'=>hne (hp.own i τ d m e n g h' hτ (by rw [b1];rfl) e'))]
    exact b3
  ·have hi':=hcell i a hi
   rcases hrow j d m hj with ⟨rfl,rfl,rfl⟩ | ⟨hne,h'⟩
   ·rw [hσn]
    intro e'
    rcases hnew _ e' with h1 | h1
    ·exact hp.sep i j a _ n hi' hτ h1
    ·have:=hp.lt (.inl ⟨i,a,hi',rfl⟩)
     change w.heap.size<=G.φ i at h1
     omega
   ·rw [hσ j hne]
    exact hp.sep i j a d m hi' h'
  ·rcases hrow i d m hi with ⟨rfl,rfl,rfl⟩ | ⟨hne,h'⟩<;>rcases hrow j d' m' hj with ⟨rfl,rfl,rfl⟩ | ⟨hne',h''⟩
   ·rfl
   ·rw [hσn] at h1
    rw [hσ j hne'] at h2
    rcases hnew b h1 with h3 | h3
    ·exact hp.own _ _ _ n _ m' b hτ h'' h3 h2
    ·have:=hp.lt (.inr (.inl ⟨j,_,m',h'',h2⟩))
     omega
   ·rw [hσn] at h2
    rw [hσ i hne] at h1
    rcases hnew b h2 with h3 | h3
    ·exact hp.own _ _ _ m _ n b h' hτ h1 h3
    ·have:=hp.lt (.inr (.inl ⟨i,_,m,h',h1⟩))
     omega
   ·rw [hσ i hne] at h1
    rw [hσ j hne'] at h2
    exact hp.own i j d m d' m' b h' h'' h1 h2
  ·have h':=hobj i k p hi
   obtain ⟨o,ho,h2,h3⟩:=hp.objs i k p h'
   refine ⟨o,?_,h2,h3⟩
   show w'.heap[G.φ i]?=_
   rw [hold _ (hp.lt (.inr (.inr ⟨i,_,p,h',rfl⟩))) (fun e=>?_)]
   ·exact ho
   ·rcases hown0.2 with ⟨h4,_⟩ | ⟨g,cap,cur,h4,_,h5,_⟩
    ·rw [h4] at e;cases e
    ·rw [h4] at e
     injection e with e
     rw [←e] at ho
     change w.heap[g]?=_ at ho
     rw [h5] at ho
     injection ho with ho
     exact h3 _ _ _ ho.symm
 refine ⟨hp',⟨E,ho,ht,hu,hs,fun b hlt' hni=>hold b hlt' (fun e=>hni (.inr (.inl ⟨τ,_,n,hτ,e⟩))),fun b h=>?_⟩,?_⟩
 ·rcases h with ⟨i,a,hi,rfl⟩ | ⟨i,d,m,hi,h⟩ | ⟨i,k,p,hi,rfl⟩
  ·exact .inl (.inl ⟨i,a,hcell i a hi,rfl⟩)
  ·rcases hrow i d m hi with ⟨rfl,rfl,rfl⟩ | ⟨hne,h'⟩
   ·rw [hσn] at h
    rcases hnew b h with h1 | h1
    ·exact .inl (.inr (.inl ⟨i,_,n,hτ,h1⟩))
    ·exact .inr h1
   ·rw [hσ i hne] at h
    exact .inl (.inr (.inl ⟨i,d,m,h',h⟩))
  ·exact .inl (.inr (.inr ⟨i,k,p,hobj i k p hi,rfl⟩))
 ·have:=hp'.row_vr (τ:=τ) (e:=e) (es:=es) (xs:=zs++ys) (zaa.set_same _ _ _) (by rw [hsz];exact hz) (by rw [hσn,hsz];exact hown) (by rw [hsz];exact hr.evo E)
  rwa [hσn,hsz] at this
theorem zia (hp:Hp G H w) (o:Obj):Hp G H (w.alloc o)/\Ext G H w G H (w.alloc o):=by
 have hb:∀b,b<w.heap.size->(w.alloc o).heap[b]?=w.heap[b]?:=fun b hb=>heap_alloc_old w _ hb
 have E:Evo G H w G H (w.alloc o):=.of_grow hb (fun i x h=>⟨h,rfl,rfl,rfl⟩) (fun i x h=>.inl h)
 refine ⟨⟨fun i cs hi=>?_,fun i d n hi=>?_,hp.inj,hp.sep,hp.own,fun i k p hi=>?_,hp.oinj,hp.lo_le (by simp)⟩,⟨E,rfl,rfl,rfl,by simp,fun b hlt _=>hb b hlt,fun b h=>.inl h⟩⟩
 ·obtain ⟨vs,ty,hg,hs,h1,hv⟩:=hp.cells i cs hi
  exact ⟨vs,ty,by rw [hb _ (hp.lt (.inl ⟨i,cs,hi,rfl⟩))];exact hg,hs,h1,fun j c x hc hx=>(hv j c x hc hx).evo E⟩
 ·obtain ⟨hz,xs,hown⟩:=hp.rows i d n hi
  exact ⟨hz,xs,hown.alloc _⟩
 ·obtain ⟨o',ho,h2,h3⟩:=hp.objs i k p hi
  exact ⟨o',by rw [hb _ (hp.lt (.inr (.inr ⟨i,k,p,hi,rfl⟩)))];exact ho,h2,h3⟩
theorem zoi (hp:Hp G H w) {new:Nat} (hn:H new=none) {k:Option Loop} {p:Obj->Prop} {o:Obj} (ho:p o/\fits k o) (hnc:∀vs ty fr,o≠.cells vs ty fr) :
  Hp (G.atφ new w.heap.size) (H.set new (.obj k p)) (w.alloc o)/\Ext G H w (G.atφ new w.heap.size) (H.set new (.obj k p)) (w.alloc o):=by
 have hφ:∀i,i≠new->(G.atφ new w.heap.size).φ i=G.φ i:=fun i h=>by simp [Gh.atφ,h]
 have hφn:(G.atφ new w.heap.size).φ new=w.heap.size:=by simp [Gh.atφ]
 have hb:∀b,b<w.heap.size->(w.alloc o).heap[b]?=w.heap[b]?:=fun b hb=>heap_alloc_old w _ hb
 have hH:∀i x,H i=some x->(H.set new (.obj k p)) i=some x:=fun i x h=>by rw [zaa.set_ne _ _ (zbk hn h)];exact h
 have E:Evo G H w (G.atφ new w.heap.size) (H.set new (.obj k p)) (w.alloc o):=by
  refine .of_grow hb (fun i x h=>⟨hH i x h,hφ i (zbk hn h),rfl,rfl⟩) (fun i x h=>?_)
  rcases zaa.set_cases h with ⟨rfl,rfl⟩ | ⟨_,h⟩
  ·exact .inr ⟨fun _ h=>(by cases h),fun _ _ h=>(by cases h)⟩
  ·exact .inl h
 have hcell:∀j a,(H.set new (.obj k p)) j=some (.cells a)->j≠new/\H j=some (.cells a):=fun j a h=>by
  rcases zaa.set_cases h with ⟨_,h2⟩ | ⟨hne,h2⟩
  ·cases h2
  ·exact ⟨hne,h2⟩
 have hrow:∀j d n,(H.set new (.obj k p)) j=some (.row d n)->j≠new/\H j=some (.row d n):=fun j d n h=>by
  rcases zaa.set_cases h with ⟨_,h2⟩ | ⟨hne,h2⟩
  ·cases h2
  ·exact ⟨hne,h2⟩
 refine ⟨⟨fun i ds hi=>?_,fun i d n hi=>?_,fun i j ds es hi hj he=>?_,fun i j ds d n hi hj=>?_,fun i j d m d' n b hi hj h1 h2=>hp.own i j d m d' n b (hrow i d m hi).2 (hrow j d' n hj).2 h1 h2,fun i k' p' hi=>?_,fun i j k' k'' p' q hi hj he=>?_,hp.lo_le (by simp)⟩,⟨E,rfl,rfl,rfl,by simp,fun b hlt _=>hb b hlt,fun b h=>?_⟩⟩
 ·obtain ⟨hne,h⟩:=hcell i ds hi
  obtain ⟨us,tu,hg,hs,h1',hv'⟩:=hp.cells i ds h
  exact ⟨us,tu,by rw [hφ i hne,hb _ (hp.lt (.inl ⟨i,ds,h,rfl⟩))];exact hg,hs,h1',fun j c x hc hx=>(hv' j c x hc hx).evo E⟩
 ·obtain ⟨hz,xs,hown⟩:=hp.rows i d n (hrow i d n hi).2
  exact ⟨hz,xs,hown.alloc _⟩
 ·obtain ⟨h1,h2⟩:=hcell i ds hi
  obtain ⟨h3,h4⟩:=hcell j es hj
  rw [hφ i h1,hφ j h3] at he
  exact hp.inj i j _ _ h2 h4 he
 ·obtain ⟨h1,h2⟩:=hcell i ds hi
  rw [hφ i h1]
  exact hp.sep i j ds d n h2 (hrow j d n hj).2
 ·rcases zaa.set_cases hi with ⟨rfl,h⟩ | ⟨hne,h⟩
  ·injection h with h1 h2
   subst h1 h2
   exact ⟨o,by rw [hφn];exact heap_alloc_new w _,ho,hnc⟩
  ·obtain ⟨o',ho',h2,h3⟩:=hp.objs i k' p' h
   exact ⟨o',by rw [hφ i hne,hb _ (hp.lt (.inr (.inr ⟨i,k',p',h,rfl⟩)))];exact ho',h2,h3⟩
 ·rcases zaa.set_cases hi with ⟨rfl,_⟩ | ⟨hne,h⟩<;>rcases zaa.set_cases hj with ⟨rfl,_⟩ | ⟨hne',h'⟩
  ·rfl
  ·rw [hφn,hφ j hne'] at he
   have:=hp.lt (.inr (.inr ⟨j,k'',q,h',rfl⟩))
   omega
  ·rw [hφn,hφ i hne] at he
   have:=hp.lt (.inr (.inr ⟨i,k',p',h,rfl⟩))
   omega
  ·rw [hφ i hne,hφ j hne'] at he
   exact hp.oinj i j _ _ p' q h h' he
 ·rcases h with ⟨i,ds,hi,rfl⟩ | ⟨i,d,n,hi,h⟩ | ⟨i,k',p',hi,rfl⟩
  ·obtain ⟨h1,h2⟩:=hcell i ds hi
   exact .inl (.inl ⟨i,ds,h2,(hφ i h1).symm⟩)
  ·exact .inl (.inr (.inl ⟨i,d,n,(hrow i d n hi).2,h⟩))
  ·rcases zaa.set_cases hi with ⟨rfl,_⟩ | ⟨hne,h'⟩
   ·exact .inr (by rw [hφn];exact Nat.le_refl _)
   ·exact .inl (.inr (.inr ⟨i,k',p',h',(hφ i hne).symm⟩))
theorem zhe (hp:Hp G H w) {i:Nat} {k:Option Loop} {p p':Obj->Prop} {o:Obj} (hi:H i=some (.obj k p)) (ho:p' o/\fits k o) (hnc:∀vs ty fr,o≠.cells vs ty fr) :
  Hp G (H.set i (.obj k p')) (w.putObj (G.φ i) o)/\Ext G H w G (H.set i (.obj k p')) (w.putObj (G.φ i) o):=by
 have hcell:∀j a,(H.set i (.obj k p')) j=some (.cells a)->H j=some (.cells a):=fun j a h=>by
  rcases zaa.set_cases h with ⟨_,h2⟩ | ⟨hne,h2⟩
  ·cases h2
  ·exact h2
 have hrow:∀j d n,(H.set i (.obj k p')) j=some (.row d n)->H j=some (.row d n):=fun j d n h=>by
  rcases zaa.set_cases h with ⟨_,h2⟩ | ⟨hne,h2⟩
  ·cases h2
  ·exact h2
 have hobj:∀j k1 q,(H.set i (.obj k p')) j=some (.obj k1 q)->∃q',H j=some (.obj k1 q'):=fun j k1 q h=>by
  rcases zaa.set_cases h with ⟨rfl,h2⟩ | ⟨hne,h2⟩
  ·injection h2 with h1 h2
   subst h1
   exact ⟨p,hi⟩
  ·exact ⟨q,h2⟩
 obtain ⟨o0,ho0,_,hnc0⟩:=hp.objs i k p hi
 have hlt:G.φ i<w.heap.size:=(Array.getElem?_eq_some_iff.1 ho0).1
 have hb:∀b,b≠G.φ i->(w.putObj (G.φ i) o).heap[b]?=w.heap[b]?:=fun b h=>World.putObj_heap_other h
 have hcb:∀b j x,w.cell? ⟨b,j,none⟩=some x->b≠G.φ i:=fun b j x hx e=>by
  subst e
  unfold World.cell? at hx
  simp only [ho0] at hx
  cases o0 with
  | cells vs ty fr=>exact hnc0 _ _ _ rfl
  | _=>simp at hx
 have E:Evo G H w G (H.set i (.obj k p')) (w.putObj (G.φ i) o):=by
  refine ⟨fun j h=>⟨rfl,zaa.cel_obj h hi⟩,fun j d n h=>⟨rfl,n,?_,Nat.le_refl _,fun _=>rfl⟩,fun j k1 q h=>⟨rfl,?_⟩,fun b n hf=>⟨fun j x _ hx=>?_,fun _=>⟨fun j a h e=>hf.1 j a (hcell j a h) e,fun j d m h e=>hf.2 j d m (hrow j d m h) e⟩⟩,rfl,fun b _ _ _ _ h=>(hb b (fun e=>by rw [e,ho0] at h;injection h with h;exact hnc0 _ _ _ h)).trans h⟩
  ·rw [zaa.set_ne _ _ (fun e=>by subst e;rw [hi] at h;cases h)];exact h
  ·by_cases hj:j=i
   ·subst hj
    rw [hi] at h
    injection h with h
    injection h with h1 h2
    subst h1
    exact ⟨p',zaa.set_same _ _ _⟩
   ·exact ⟨q,by rw [zaa.set_ne _ _ hj];exact h⟩
  ·rw [←hx]
   exact World.cell?_of_block (a:=⟨b,j,none⟩) (hb b (hcb b j x hx))
 refine ⟨⟨fun j a h=>?_,fun j d n h=>?_,fun j l a b hj hl he=>hp.inj j l a b (hcell j a hj) (hcell l b hl) he,fun j l a d n hj hl=>hp.sep j l a d n (hcell j a hj) (hrow l d n hl),fun j l d m d' n b hj hl=>hp.own j l d m d' n b (hrow j d m hj) (hrow l d' n hl),
  fun j k1 q hj=>?_,fun j l k1 k2 p1 q1 hj hl he=>?_,hp.lo_le (by simp)⟩,⟨E,rfl,rfl,rfl,by simp,fun b _ hni=>hb b (fun e=>hni (.inr (.inr ⟨i,k,p,hi,e.symm⟩))),fun b h=>.inl ?_⟩⟩
 ·obtain ⟨xs,tx,hg',hs,h1',hv'⟩:=hp.cells j a (hcell j a h)
  exact ⟨xs,tx,by rw [hb _ (fun e=>by rw [e,ho0] at hg';injection hg' with hg';exact hnc0 _ _ _ hg')];exact hg',hs,h1',fun j c x hc hx=>(hv' j c x hc hx).evo E⟩
 ·obtain ⟨hz,ys,a1,a2⟩:=hp.rows j d n (hrow j d n h)
  refine ⟨hz,ys,a1,a2.imp id ?_⟩
  rintro ⟨g,cap,cur,b1,b2,b3,b4⟩
  exact ⟨g,cap,cur,b1,b2,by rw [hb g (fun e=>by rw [e,ho0] at b3;injection b3 with b3;exact hnc0 _ _ _ b3)];exact b3,b4⟩
 ·rcases zaa.set_cases hj with ⟨rfl,h2⟩ | ⟨hne,h2⟩
  ·injection h2 with h1 h2
   subst h1 h2
   exact ⟨o,World.putObj_heap_same hlt,ho,hnc⟩
  ·obtain ⟨o',ho',h3,h4⟩:=hp.objs j k1 q h2
   exact ⟨o',by rw [hb _ (fun e=>hne (hp.oinj j i k1 k q p h2 hi e))];exact ho',h3,h4⟩
 ·obtain ⟨p1',h1⟩:=hobj j k1 p1 hj
  obtain ⟨q1',h2⟩:=hobj l k2 q1 hl
  exact hp.oinj j l k1 k2 p1' q1' h1 h2 he
 ·rcases h with ⟨j,a,hj,rfl⟩ | ⟨j,d,n,hj,h⟩ | ⟨j,k1,q,hj,rfl⟩
  ·exact .inl ⟨j,a,hcell j a hj,rfl⟩
  ·exact .inr (.inl ⟨j,d,n,hrow j d n hj,h⟩)
  ·obtain ⟨q',h1⟩:=hobj j k1 q hj
   exact .inr (.inr ⟨j,k1,q',h1,rfl⟩)
end
end Go.AM
