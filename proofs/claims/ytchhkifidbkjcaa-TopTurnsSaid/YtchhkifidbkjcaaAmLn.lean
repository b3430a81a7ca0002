/-
  The abstract machine: slices whose elements are written to, and that grow.
  Conditions: none; it speaks of any program.
-/
import Derived.Test.YtchhkifidbkjcaaAmH
set_option linter.all false
namespace Go.AM
open Go Go.RowKit
theorem zku {H:zaa} {i:Nat} {cs:List AV} (hi:H i=some (.cells cs)):∀(G:Gh) (w:World),Hp G H w->Hp G (H.set i .ice) w/\Ext G H w G (H.set i .ice) w:=by
 have hcel:∀x,H.cel x->(H.set i .ice).cel x:=fun x h=>by
  by_cases e:x=i
  ·subst e;exact .inr (zaa.set_same _ _ _)
  ·unfold zaa.cel;rw [zaa.set_ne _ _ e];exact h
 have hcell:∀(x:Nat) ds,(H.set i .ice) x=some (.cells ds)->x≠i/\H x=some (.cells ds):=fun x ds h=>by
  rcases zaa.set_cases h with ⟨_,hx⟩ | ⟨hne,hx⟩
  ·cases hx
  ·exact ⟨hne,hx⟩
 have hrow:∀(x:Nat) d n,(H.set i .ice) x=some (.row d n)->H x=some (.row d n):=fun x d n h=>by
  rcases zaa.set_cases h with ⟨_,hx⟩ | ⟨_,hx⟩
  ·cases hx
  ·exact hx
 have hobj:∀(x:Nat) q p,(H.set i .ice) x=some (.obj q p)->H x=some (.obj q p):=fun x d n h=>by
  rcases zaa.set_cases h with ⟨_,hx⟩ | ⟨_,hx⟩
  ·cases hx
  ·exact hx
 intro G w hp
 have hfree:∀b n,zis G H b n->zis G (H.set i .ice) b n:=fun b n h =>
  ⟨fun x ds hx=>h.1 x ds (hcell x ds hx).2,fun x d m hx=>h.2 x d m (hrow x d m hx)⟩
 have E:Evo G H w G (H.set i .ice) w:=by
  refine ⟨fun x h=>⟨rfl,hcel x h⟩,fun x d n h=>⟨rfl,n,?_,Nat.le_refl _,fun _=>rfl⟩,fun x q p h=>⟨rfl,p,?_⟩,fun b n h=>⟨fun _ _ _ hx=>hx,fun _=>hfree b n h⟩,rfl,fun _ _ _ _ _ h=>h⟩
  ·rw [zaa.set_ne _ _ (fun e=>by subst e;rw [hi] at h;cases h)];exact h
  ·rw [zaa.set_ne _ _ (fun e=>by subst e;rw [hi] at h;cases h)];exact h
 refine ⟨⟨fun x ds h=>?_,fun x d n h=>hp.rows x d n (hrow x d n h),fun x y ds fs h1 h2 he=>hp.inj x y ds fs (hcell x ds h1).2 (hcell y fs h2).2 he,fun x y ds d n h1 h2=>hp.sep x y ds d n (hcell x ds h1).2 (hrow y d n h2),fun x y d m d' n b h1 h2=>hp.own x y d m d' n b (hrow x d m h1) (hrow y d' n h2),fun x q p h=>hp.objs x q p (hobj x q p h),fun x y q q' p p' h1 h2=>hp.oinj x y q q' p p' (hobj x q p h1) (hobj y q' p' h2),hp.lo⟩,⟨E,rfl,rfl,rfl,Nat.le_refl _,fun _ _ _=>rfl,fun b hb=>.inl ?_⟩⟩
 ·obtain ⟨vs,ty,h1,h2,h3,h4⟩:=hp.cells x ds (hcell x ds h).2
  exact ⟨vs,ty,h1,h2,h3,fun y c v hc hv=>(h4 y c v hc hv).evo E⟩
 ·rcases hb with ⟨x,ds,hx,hb⟩ | ⟨x,d,n,hx,hb⟩ | ⟨x,q,p,hx,hb⟩
  ·exact .inl ⟨x,ds,(hcell x ds hx).2,hb⟩
  ·exact .inr (.inl ⟨x,d,n,hrow x d n hx,hb⟩)
  ·exact .inr (.inr ⟨x,q,p,hobj x q p hx,hb⟩)
theorem zmk {H:zaa} {g i:Nat} {cs:List AV} (hi:H i=some (.cells cs)) :
  za2 H g->za2 (H.set i .ice) g/\∀(G:Gh) (w:World),Hp G H w->Hp G (H.set i .ice) w/\Ext G H w G (H.set i .ice) w:=fun hf=>⟨fun x hx=>by
 have hne:x≠i:=fun e=>by subst e;rw [hf x hx] at hi;cases hi
 rw [zaa.set_ne _ _ hne]
 exact hf x hx,zku hi⟩
section
variable {P:Program} {G:Gh} {H:zaa} {w w':World}
theorem znn (hp:Hp G H w) {i new:Nat} {cs:List AV} (hi:H i=some (.cells cs)) (hn:H new=none) :
  Hp (G.atC new (G.φ i) (G.sz i)) ((H.set i .ice).set new (.cells cs)) w/\Ext G H w (G.atC new (G.φ i) (G.sz i)) ((H.set i .ice).set new (.cells cs)) w:=by
 have hin:i≠new:=fun e=>by rw [e,hn] at hi;cases hi
 have hφ:∀j,j≠new->(G.atC new (G.φ i) (G.sz i)).φ j=G.φ j:=fun j h=>by simp [Gh.atC,Gh.atφ,h]
 have hz:∀j,j≠new->(G.atC new (G.φ i) (G.sz i)).sz j=G.sz j:=fun j h=>by simp [Gh.atC,h]
 have hφn:(G.atC new (G.φ i) (G.sz i)).φ new=G.φ i:=by simp [Gh.atC,Gh.atφ]
 have hzn:(G.atC new (G.φ i) (G.sz i)).sz new=G.sz i:=by simp [Gh.atC]
 have hσ:(G.atC new (G.φ i) (G.sz i)).σ=G.σ:=rfl
 have hcls:∀j x,((H.set i .ice).set new (.cells cs)) j=some x->(j=new/\x=.cells cs)\/(j=i/\x=.ice)\/(j≠new/\j≠i/\H j=some x):=fun j x h=>by
  rcases zaa.set_cases h with h | ⟨h1,h⟩
  ·exact .inl h
  ·rcases zaa.set_cases h with h | ⟨h2,h⟩
   ·exact .inr (.inl h)
   ·exact .inr (.inr ⟨h1,h2,h⟩)
 have hat:∀j x,j≠i->H j=some x->((H.set i .ice).set new (.cells cs)) j=some x:=fun j x h1 h=>by
  rw [zaa.set_ne _ _ (zbk hn h),zaa.set_ne _ _ h1];exact h
 have hcel:∀j,H.cel j->j≠new/\((H.set i .ice).set new (.cells cs)).cel j:=fun j h=>by
  have hj:j≠new:=by rcases h with ⟨ds,h⟩ | h<;>exact zbk hn h
  refine ⟨hj,?_⟩
  by_cases e:j=i
  ·subst e
   exact .inr (by rw [zaa.set_ne _ _ hj];exact zaa.set_same _ _ _)
  ·rcases h with ⟨ds,h⟩ | h
   ·exact .inl ⟨ds,hat j _ e h⟩
   ·exact .inr (hat j _ e h)
 have hrow:∀j d m,((H.set i .ice).set new (.cells cs)) j=some (.row d m)->j≠new/\H j=some (.row d m):=fun j d m h=>by
  rcases hcls j _ h with ⟨_,h⟩ | ⟨_,h⟩ | ⟨h1,_,h⟩
  ·cases h
  ·cases h
  ·exact ⟨h1,h⟩
 have hobj:∀j q p,((H.set i .ice).set new (.cells cs)) j=some (.obj q p)->j≠new/\H j=some (.obj q p):=fun j d m h=>by
  rcases hcls j _ h with ⟨_,h⟩ | ⟨_,h⟩ | ⟨h1,_,h⟩
  ·cases h
  ·cases h
  ·exact ⟨h1,h⟩
 have hcell:∀j ds,((H.set i .ice).set new (.cells cs)) j=some (.cells ds)->(j=new/\ds=cs)\/(j≠new/\j≠i/\H j=some (.cells ds)):=fun j ds h=>by
  rcases hcls j _ h with ⟨h1,h⟩ | ⟨_,h⟩ | h
  ·injection h with h;exact .inl ⟨h1,h⟩
  ·cases h
  ·exact .inr h
 have E:Evo G H w (G.atC new (G.φ i) (G.sz i)) ((H.set i .ice).set new (.cells cs)) w:=by
  refine ⟨fun j h=>⟨by rw [hφ j (hcel j h).1,hz j (hcel j h).1],(hcel j h).2⟩,fun j d n h=>⟨hz j (zbk hn h),n,hat j _ (fun e=>by subst e;rw [hi] at h;cases h) h,Nat.le_refl _,fun _=>rfl⟩,
   fun j k p h=>⟨hφ j (zbk hn h),p,hat j _ (fun e=>by subst e;rw [hi] at h;cases h) h⟩,fun b n hf=>⟨fun _ _ _ hx=>hx,fun _=>⟨fun j ds h=>?_,fun j d m h=>?_⟩⟩,rfl,fun _ _ _ _ _ h=>h⟩
  ·rcases hcell j ds h with ⟨rfl,rfl⟩ | ⟨h1,_,h⟩
   ·rw [hφn];exact hf.1 i _ hi
   ·rw [hφ j h1];exact hf.1 j ds h
  ·obtain ⟨h1,h2⟩:=hrow j d m h
   rw [hz j h1]
   exact hf.2 j d m h2
 refine ⟨⟨fun j ds h=>?_,fun j d n h=>?_,fun j k ds es h1 h2 he=>?_,fun j k ds d n h1 h2=>?_,fun j k d m d' n b h1 h2=>hp.own j k d m d' n b (hrow j d m h1).2 (hrow k d' n h2).2,fun j k p h=>?_,fun j k q q' p p' h1 h2 he=>?_,hp.lo⟩,⟨E,rfl,rfl,rfl,Nat.le_refl _,fun _ _ _=>rfl,fun b hb=>.inl ?_⟩⟩
 ·rcases hcell j ds h with ⟨rfl,rfl⟩ | ⟨h1,_,h⟩
  ·obtain ⟨vs,ty,a1,a2,a3,a4⟩:=hp.cells i _ hi
   exact ⟨vs,ty,by rw [hφn];exact a1,by rw [hzn];exact a2,a3,fun y c v hc hv=>(a4 y c v hc hv).evo E⟩
  ·obtain ⟨vs,ty,a1,a2,a3,a4⟩:=hp.cells j ds h
   exact ⟨vs,ty,by rw [hφ j h1];exact a1,by rw [hz j h1];exact a2,a3,fun y c v hc hv=>(a4 y c v hc hv).evo E⟩
 ·obtain ⟨h1,h2⟩:=hrow j d n h
  rw [hz j h1]
  exact hp.rows j d n h2
 ·rcases hcell j ds h1 with ⟨rfl,rfl⟩ | ⟨a1,a2,a3⟩<;>rcases hcell k es h2 with ⟨rfl,rfl⟩ | ⟨b1,b2,b3⟩
  ·rfl
  ·rw [hφn,hφ k b1] at he
   exact absurd (hp.inj i k _ _ hi b3 he).symm b2
  ·rw [hφn,hφ j a1] at he
   exact absurd (hp.inj j i _ _ a3 hi he) a2
  ·rw [hφ j a1,hφ k b1] at he
   exact hp.inj j k _ _ a3 b3 he
 ·rcases hcell j ds h1 with ⟨rfl,rfl⟩ | ⟨a1,a2,a3⟩
  ·rw [hφn]
   exact hp.sep i k _ d n hi (hrow k d n h2).2
  ·rw [hφ j a1]
   exact hp.sep j k ds d n a3 (hrow k d n h2).2
 ·obtain ⟨h1,h2⟩:=hobj j k p h
  rw [hφ j h1]
  exact hp.objs j k p h2
 ·obtain ⟨a1,a2⟩:=hobj j q p h1
  obtain ⟨b1,b2⟩:=hobj k q' p' h2
  rw [hφ j a1,hφ k b1] at he
  exact hp.oinj j k q q' p p' a2 b2 he
 ·rcases hb with ⟨j,ds,h,hb⟩ | ⟨j,d,n,h,hb⟩ | ⟨j,q,p,h,hb⟩
  ·rcases hcell j ds h with ⟨rfl,rfl⟩ | ⟨a1,_,a3⟩
   ·exact .inl ⟨i,_,hi,by rw [←hφn];exact hb⟩
   ·exact .inl ⟨j,ds,a3,by rw [←hφ j a1];exact hb⟩
  ·exact .inr (.inl ⟨j,d,n,(hrow j d n h).2,hb⟩)
  ·obtain ⟨a1,a2⟩:=hobj j q p h
   exact .inr (.inr ⟨j,q,p,a2,by rw [←hφ j a1];exact hb⟩)
theorem RowVR.vr_clip {k b:Nat} {es:List (List AV)} {xs:List Value} (hr:RowVR G H w k es xs) (hc:∀j x,xs[j]?=some x->w.cell? ⟨b,j,none⟩=some x) (hk:0<k) (hfr:zis G H b (es.length*k)) :
  VR G H w (.sl .clip k es) (.slice (some ⟨b,0,none⟩) es.length es.length):=by
 have key:∀(i j:Nat) (e:List AV) (c:AV),es[i]?=some e->e[j]?=some c->∃x,xs[i*k+j]?=some x/\w.cell? ⟨b,i*k+j,none⟩=some x:=fun i j e c hi hj=>by
  have hi':=(List.getElem?_eq_some_iff.1 hi).1
  have hj':j<k:=by rw [←hr.each e (List.mem_of_getElem? hi)];exact (List.getElem?_eq_some_iff.1 hj).1
  have hm:(i+1)*k<=es.length*k:=Nat.mul_le_mul_right _ hi'
  rw [Nat.add_mul] at hm
  have hx:xs[i*k+j]?=some (xs[i*k+j]'(by rw [hr.len];omega)):=List.getElem?_eq_getElem _
  exact ⟨_,hx,hc _ _ hx⟩
 refine .sl .clip k es _ es.length b 0 (fun i j=>xs.getD (i*k+j) undef) (Nat.le_refl _) hr.each (fun _=>⟨hk,rfl,by rw [Nat.zero_add];exact hfr⟩) (fun i j e c hi hj=>?_) (fun i j e c hi hj=>?_) rfl
 ·obtain ⟨x,hx,hcx⟩:=key i j e c hi hj
  simp only [List.getD_eq_getElem?_getD,hx,Option.getD_some,Nat.zero_add]
  exact ⟨hcx,hr.one x (List.mem_of_getElem? hx)⟩
 ·obtain ⟨x,hx,hcx⟩:=key i j e c hi hj
  simp only [List.getD_eq_getElem?_getD,hx,Option.getD_some]
  exact hr.vr i j e c x hi hj hx
def zv5 (P:Program) (G:Gh) (H:zaa) (w:World) (o:Oper) (cρ:Operand->Value) (r:AV) (H':zaa):Prop :=
 ∃v w' G',(execOp cρ o).run P w=.ok (.value v) w'/\Hp G' H' w'/\Ext G H w G' H' w'/\VR G' H' w' r v
theorem zor {t ty:TypeId} {x:AV} {b:Value} {i off k n m new:Nat} {cs ds:List AV} {v:Value} (hp:Hp G H w) (hn:H new=none) (hi:H i=some (.cells cs)) (hcl:cs.length=off+n*k) (hsrc:zrb H k x=some (m,ds))
  (hk:zaF P t=some k) (hfit:za6 P t=true) (hm0:0<m) (hle:n+m<=1048576) (hs:VR G H w (.ms i off k n n) v) (hx:VR G H w x b) :
  ∃v' w' G' o' cs',(o'=off/\cs'=cs++ds\/o'=0/\cs'=cs.drop off++ds)/\(Builtin.append_ #[t,t] ty #[v,b]).run P w=.ok v' w'/\Hp G' ((H.set i .ice).set new (.cells cs')) w'/\Ext G H w G' ((H.set i .ice).set new (.cells cs')) w'/\VR G' ((H.set i .ice).set new (.cells cs')) w' (.ms new o' k (n+m) (n+m)) v':=by
 have hin:i≠new:=fun e=>by rw [e,hn] at hi;cases hi
 obtain ⟨e,it,z,he,hit,hzz,hzs,hpos,hb,hone⟩:=zdd hfit
 have hki:=zdg he hit hk
 obtain ⟨ad,capx,xs,rfl,x1,x2,x3,x4,x5,x6⟩:=zmj hp hsrc hx
 obtain ⟨us,tu,hg,hsu,hu1,huv⟩:=hp.cells i cs hi
 have hk0:0<k:=by omega
 have hmk:0<m*k:=Nat.mul_pos hm0 hk0
 obtain ⟨ad',rfl,hcell⟩:=x5 (by omega)
 cases hs with
 | ms _ _ _ _ _ a cap hcel ha hnn hc hz =>
  by_cases hroom:n+m<=cap
  ·have haa:=ha (by omega)
   subst haa
   have hz0:=hz (by omega)
   rw [←hsu.2] at hz0
   have hfits:off+(n+m)*k<=us.size:=Nat.le_trans (Nat.add_le_add_left (Nat.mul_le_mul_right _ hroom) _) hz0
   rw [Nat.add_mul] at hfits
   have hst:=run_storeCells_at P (G.φ i) (off+n*k) tu xs 0 us w hg (by omega) x3
   simp only [Nat.add_zero] at hst
   have ht:(us.toList.take (off+n*k)).length=off+n*k:=by simp;omega
   obtain ⟨q1,q2⟩:=zki (ds:=cs++ds) (vs:=(us.toList.take (off+n*k)++xs++us.toList.drop (off+n*k+xs.length)).toArray) hp hi hg (by simp;omega) (by simp;omega) (fun j y hj hy=>by
    rw [List.getElem?_toArray] at hy
    by_cases p1:j<off+n*k
    ·rw [List.append_assoc,List.getElem?_append_left (by omega),List.getElem?_take,if_pos p1] at hy
     exact hu1 j y (by omega) (by simpa using hy)
    ·rw [List.length_append] at hj
     rw [List.append_assoc,List.getElem?_append_right (by omega),ht,List.getElem?_append_left (by omega)] at hy
     exact x3 y (List.mem_of_getElem? hy)) (fun j c y hcj hy=>by
    rw [List.getElem?_toArray] at hy
    by_cases p1:j<off+n*k
    ·rw [List.getElem?_append_left (by omega)] at hcj
     rw [List.append_assoc,List.getElem?_append_left (by omega),List.getElem?_take,if_pos p1] at hy
     exact huv j c y hcj (by simpa using hy)
    ·rw [List.getElem?_append_right (by omega)] at hcj
     have:=(List.getElem?_eq_some_iff.1 hcj).1
     rw [List.append_assoc,List.getElem?_append_right (by omega),ht,List.getElem?_append_left (by omega)] at hy
     exact x4 (j-(off+n*k)) c y (by rw [←hcl];exact hcj) hy)
   have hnew:(H.set i (.cells (cs++ds))) new=none:=by rw [zaa.set_ne _ _ (Ne.symm hin)];exact hn
   obtain ⟨r1,r2⟩:=znn q1 (zaa.set_same _ _ _) hnew
   have hH:((H.set i (.cells (cs++ds))).set i .ice).set new (.cells (cs++ds))=(H.set i .ice).set new (.cells (cs++ds)):=by
    funext j
    by_cases h1:j=new
    ·subst h1;rw [zaa.set_same,zaa.set_same]
    ·rw [zaa.set_ne _ _ h1,zaa.set_ne _ _ h1]
     by_cases h2:j=i
     ·subst h2;rw [zaa.set_same,zaa.set_same]
     ·rw [zaa.set_ne _ _ h2,zaa.set_ne _ _ h2,zaa.set_ne _ _ h2]
   rw [hH] at r1 r2
   have hvr:VR (G.atC new (G.φ i) (G.sz i)) ((H.set i .ice).set new (.cells (cs++ds))) (w.setRow (G.φ i) (us.toList.take (off+n*k)++xs++us.toList.drop (off+n*k+xs.length)).toArray) (.ms new off k (n+m) (n+m)) (.slice (some ⟨G.φ i,off,none⟩) (n+m) cap) :=
    .ms new off k (n+m) (n+m) _ cap (.inl ⟨_,zaa.set_same _ _ _⟩) (fun _=>by simp [Gh.atC,Gh.atφ]) (Nat.le_refl _) hroom (fun _=>by
     have e1:(G.atC new (G.φ i) (G.sz i)).sz new=G.sz i:=by simp [Gh.atC]
     rw [e1,←hsu.2]
     exact hz0)
   refine ⟨_,_,_,off,cs++ds,.inl ⟨rfl,rfl⟩,?_,r1,q2.trans r2,hvr⟩
   have hfirst:(Builtin.firstCells it.size m (.slice (some ad') m capx)).run P w=.ok xs.toArray w:=run_firstCells_some (P:=P) w it.size m ad' m capx xs (by rw [x1,hki]) hcell
   rw [hki] at hfirst
   simp only [List.append_assoc] at hst ⊢
   simp [Builtin.append_,run_underlying he,sizeOf,typeInfo,hit,Builtin.lenOf,hroom,hfirst,hki,Addr.add_mid,hst]
  ·have hle2:(n+m)*it.bytes<=140737488355328:=Nat.le_trans (Nat.mul_le_mul hle hb) (by decide)
   have hus:off+n*k<=us.size:=by have:=hsu.1;omega
   have hol:((us.toList.drop off).take (n*k)).length=n*it.size:=by simp [hki];omega
   have hr:∃cap',n+m<=cap'/\(Builtin.append_ #[t,t] ty #[.slice a n cap,.slice (some ad') m capx]).run P w=.ok (.slice (some ⟨w.heap.size,0,none⟩) (n+m) cap') (w.drew.alloc (.cells (((us.toList.drop off).take (n*k)).toArray++xs.toArray++Builtin.zeroCells z.cells (cap'-(n+m))) e)):=by
    by_cases h0:cap=0
    ·subst h0
     have hn00:n=0:=by omega
     subst hn00
     refine ⟨grownCap w m 0 e,by simpa using grownCap_ge w m 0 e,?_⟩
     cases a with
     | none=>simpa using run_append_nil (P:=P) w t ty e it z he hit hzz ad' m capx xs (by rw [x1,hki]) hcell (by omega) (by omega) (by simp at hle2;omega)
     | some b0=>simpa using run_append_grow (P:=P) w t ty e it z he hit hzz b0 0 0 [] (by simp) (fun j u hu=>by simp at hu) ad' m capx xs (by rw [x1,hki]) hcell (by omega) (by omega) (growslice_fits (by omega) (by simpa using hle2))
    ·have haa:=ha (by omega)
     subst haa
     have holds:∀j u,((us.toList.drop off).take (n*k))[j]?=some u->w.cell? ((⟨G.φ i,off,none⟩:Addr).add j)=some u:=fun j u hu=>by
      rw [List.getElem?_take] at hu
      split at hu
      ·rw [Addr.add_mid]
       unfold World.cell?
       simp only [hg,Option.isSome_none,Bool.false_eq_true,if_false]
       rw [List.getElem?_drop] at hu
       simpa using hu
      ·cases hu
     exact ⟨_,grownCap_ge w (n+m) cap e,run_append_grow (P:=P) w t ty e it z he hit hzz ⟨G.φ i,off,none⟩ n cap ((us.toList.drop off).take (n*k)) hol holds ad' m capx xs (by rw [x1,hki]) hcell (by omega) (by omega) (growslice_fits (by omega) hle2)⟩
   obtain ⟨cap',hge,hr⟩:=hr
   have hsz:(((us.toList.drop off).take (n*k)).toArray++xs.toArray++Builtin.zeroCells z.cells (cap'-(n+m))).size=cap'*k:=by
    simp only [Array.size_append,List.size_toArray,size_zeroCells,hzs,hol,x1,hki,←Nat.add_mul]
    congr 1
    omega
   have hge2:(n+m)*k<=cap'*k:=Nat.mul_le_mul_right _ hge
   have hold:∀b,b<w.heap.size->(w.drew.alloc (.cells (((us.toList.drop off).take (n*k)).toArray++xs.toArray++Builtin.zeroCells z.cells (cap'-(n+m))) e)).heap[b]?=w.heap[b]?:=fun b hb=>heap_alloc_old w.drew _ hb
   have hget:∀j,j<n*k+m*k->(((us.toList.drop off).take (n*k)).toArray++xs.toArray++Builtin.zeroCells z.cells (cap'-(n+m)))[j]?=(((us.toList.drop off).take (n*k))++xs)[j]?:=fun j hj=>by
    rw [Array.getElem?_append_left (by simp [hol,x1,hki];omega)]
    simp
   have hcd:(cs.drop off).length=n*k:=by rw [List.length_drop,hcl];omega
   obtain ⟨q1,q2⟩:=zga (cs:=cs.drop off++ds) (ty:=e) hp hn hold (by simp) rfl rfl rfl (Nat.le_refl _) (heap_alloc_new w.drew _) (by rw [hsz,List.length_append,hcd,x2,←Nat.add_mul];exact hge2) (fun j y hj hy=>by
    rw [List.length_append,hcd,x2] at hj
    rw [hget j hj] at hy
    by_cases p1:j<n*k
    ·rw [List.getElem?_append_left (by rw [hol,hki];exact p1),List.getElem?_take,if_pos p1,List.getElem?_drop] at hy
     exact hu1 (off+j) y (by omega) (by simpa using hy)
    ·rw [List.getElem?_append_right (by rw [hol,hki];omega)] at hy
     exact x3 y (List.mem_of_getElem? hy)) (fun j c y hcj hy=>by
    have hj:=(List.getElem?_eq_some_iff.1 hcj).1
    rw [List.length_append,hcd,x2] at hj
    rw [hget j hj] at hy
    by_cases p1:j<n*k
    ·rw [List.getElem?_append_left (by omega),List.getElem?_drop] at hcj
     rw [List.getElem?_append_left (by rw [hol,hki];exact p1),List.getElem?_take,if_pos p1,List.getElem?_drop] at hy
     exact huv (off+j) c y hcj (by simpa using hy)
    ·rw [List.getElem?_append_right (by omega)] at hcj
     rw [List.getElem?_append_right (by rw [hol,hki];omega),hol,hki] at hy
     exact x4 (j-n*k) c y (by rw [←hcd];exact hcj) hy)
   have hi2:(H.set new (.cells (cs.drop off++ds))) i=some (.cells cs):=by rw [zaa.set_ne _ _ hin];exact hi
   obtain ⟨r1,r2⟩:=(zku hi2) _ _ q1
   have hH:(H.set new (.cells (cs.drop off++ds))).set i .ice=(H.set i .ice).set new (.cells (cs.drop off++ds)):=by
    funext j
    by_cases h1:j=new
    ·subst h1;rw [zaa.set_same,zaa.set_ne _ _ (Ne.symm hin),zaa.set_same]
    ·by_cases h2:j=i
     ·subst h2;rw [zaa.set_same,zaa.set_ne _ _ h1,zaa.set_same]
     ·rw [zaa.set_ne _ _ h2,zaa.set_ne _ _ h1,zaa.set_ne _ _ h1,zaa.set_ne _ _ h2]
   rw [hH] at r1 r2
   refine ⟨_,_,_,0,cs.drop off++ds,.inr ⟨rfl,rfl⟩,hr,r1,q2.trans r2,.ms new 0 k (n+m) (n+m) _ _ (.inl ⟨_,zaa.set_same _ _ _⟩) (fun _=>by simp [Gh.atC,Gh.atφ]) (Nat.le_refl _) hge (fun _=>?_)⟩
   simp only [Gh.atC,if_true,Nat.zero_add]
   exact Nat.le_of_eq hsz.symm
theorem zos {t ty:TypeId} {x:AV} {b:Value} {k m new:Nat} {es:List (List AV)} {ds:List AV} {v:Value} {tg:Tag} (hp:Hp G H w) (hn:H new=none) (hsrc:zrb H k x=some (m,ds))
  (hk:zaF P t=some k) (hfit:za6 P t=true) (hm0:0<m) (hle:es.length+m<=1048576) (htg:tg=.clip\/tg=.nil) (hs:VR G H w (.sl tg k es) v) (hx:VR G H w x b) :
  ∃v' w' G',(Builtin.append_ #[t,t] ty #[v,b]).run P w=.ok v' w'/\Hp G' (H.set new (.cells (es.flatten++ds))) w'/\Ext G H w G' (H.set new (.cells (es.flatten++ds))) w'/\VR G' (H.set new (.cells (es.flatten++ds))) w' (.ms new 0 k (es.length+m) (es.length+m)) v':=by
 obtain ⟨e,it,z,he,hit,hzz,hzs,hpos,hb,hone⟩:=zdd hfit
 have hki:=zdg he hit hk
 obtain ⟨ad,capx,xs,rfl,x1,x2,x3,x4,x5,x6⟩:=zmj hp hsrc hx
 have hk0:0<k:=by omega
 have hmk:0<m*k:=Nat.mul_pos hm0 hk0
 obtain ⟨ad',rfl,hcell⟩:=x5 (by omega)
 obtain ⟨as,caps,olds,rfl,hcaps,hrows,htag,hblks⟩:=hs.row
 have hcap:caps=es.length:=by
  rcases htg with rfl | rfl
  ·exact htag
  ·change Value.slice as es.length caps=.slice none 0 0 at htag
   injection htag with e1 e2 e3
   omega
 subst hcap
 have hle2:(es.length+m)*it.bytes<=140737488355328:=Nat.le_trans (Nat.mul_le_mul hle hb) (by decide)
 obtain ⟨f1,f2⟩:=zcr es hrows.each
 have hol:olds.length=es.length*it.size:=by rw [hrows.len,hki]
 obtain ⟨cap',hge,hr⟩:∃cap',es.length+m<=cap'/\(Builtin.append_ #[t,t] ty #[.slice as es.length es.length,.slice (some ad') m capx]).run P w=.ok (.slice (some ⟨w.heap.size,0,none⟩) (es.length+m) cap') (w.drew.alloc (.cells (olds.toArray++xs.toArray++Builtin.zeroCells z.cells (cap'-(es.length+m))) e)):=by
  by_cases hes:es=[]
  ·subst hes
   have h0:olds=[]:=List.eq_nil_of_length_eq_zero (by rw [hol];simp)
   subst h0
   refine ⟨grownCap w m 0 e,by simpa using grownCap_ge w m 0 e,?_⟩
   cases as with
   | none=>simpa using run_append_nil (P:=P) w t ty e it z he hit hzz ad' m capx xs (by rw [x1,hki]) hcell (by omega) (by simp at hle;omega) (by simp at hle2;omega)
   | some b0=>simpa using run_append_grow (P:=P) w t ty e it z he hit hzz b0 0 0 [] (by simp) (fun j u hu=>by simp at hu) ad' m capx xs (by rw [x1,hki]) hcell (by omega) (by simp at hle;omega) (growslice_fits (by omega) (by simpa using hle2))
  ·obtain ⟨b0,o0,rfl,_,_,hcx⟩:=hblks hes
   exact ⟨_,grownCap_ge w (es.length+m) es.length e,run_append_grow (P:=P) w t ty e it z he hit hzz _ es.length es.length olds hol hcx ad' m capx xs (by rw [x1,hki]) hcell (by omega) (by omega) (growslice_fits (by omega) hle2)⟩
 have hsz:(olds.toArray++xs.toArray++Builtin.zeroCells z.cells (cap'-(es.length+m))).size=cap'*k:=by
  simp only [Array.size_append,List.size_toArray,size_zeroCells,hzs,hol,x1,hki,←Nat.add_mul]
  congr 1
  omega
 have hge2:(es.length+m)*k<=cap'*k:=Nat.mul_le_mul_right _ hge
 have hget:∀j,j<es.length*k+m*k->(olds.toArray++xs.toArray++Builtin.zeroCells z.cells (cap'-(es.length+m)))[j]?=(olds++xs)[j]?:=fun j hj=>by
  rw [Array.getElem?_append_left (by simp [hol,x1,hki];omega)]
  simp
 have hflat:∀(j:Nat) (c:AV) (y:Value),es.flatten[j]?=some c->olds[j]?=some y->VR G H w c y:=fun j c y hc hy=>by
  have hm:j<es.length*k:=by have:=(List.getElem?_eq_some_iff.1 hc).1;omega
  have d1:j / k<es.length:=Nat.div_lt_of_lt_mul (by rw [Nat.mul_comm];exact hm)
  have d2:j % k<k:=Nat.mod_lt _ hk0
  have d3:j / k*k+j % k=j:=by have:=Nat.div_add_mod j k;rw [Nat.mul_comm] at this;exact this
  have hj:j % k<es[j / k].length:=by rw [hrows.each _ (List.getElem_mem d1)];exact d2
  have e1:=f2 (j / k) (j % k) es[j / k] es[j / k][j % k] (List.getElem?_eq_getElem d1) (List.getElem?_eq_getElem hj)
  rw [d3,hc] at e1
  injection e1 with e1
  exact hrows.vr (j / k) (j % k) es[j / k] c y (List.getElem?_eq_getElem d1) (by rw [e1];exact List.getElem?_eq_getElem hj) (by rw [d3];exact hy)
 obtain ⟨q1,q2⟩:=zga (cs:=es.flatten++ds) (w':=w.drew.alloc (.cells (olds.toArray++xs.toArray++Builtin.zeroCells z.cells (cap'-(es.length+m))) e)) (ty:=e) hp hn (fun b hb=>heap_alloc_old w.drew _ hb) (by simp) rfl rfl rfl (Nat.le_refl _) (heap_alloc_new w.drew _) (by rw [hsz,List.length_append,f1,x2,←Nat.add_mul];exact hge2) (fun j y hj hy=>by
  rw [List.length_append,f1,x2] at hj
  rw [hget j hj] at hy
  rcases List.mem_append.1 (List.mem_of_getElem? hy) with h | h
  ·exact hrows.one y h
  ·exact x3 y h) (fun j c y hcj hy=>by
  have hj:=(List.getElem?_eq_some_iff.1 hcj).1
  rw [List.length_append,f1,x2] at hj
  rw [hget j hj] at hy
  by_cases p1:j<es.length*k
  ·rw [List.getElem?_append_left (by omega)] at hcj
   rw [List.getElem?_append_left (by rw [hol,hki];exact p1)] at hy
   exact hflat j c y hcj hy
  ·rw [List.getElem?_append_right (by omega),f1] at hcj
   rw [List.getElem?_append_right (by rw [hol,hki];omega),hol,hki] at hy
   exact x4 (j-es.length*k) c y hcj hy)
 refine ⟨_,_,_,hr,q1,q2,.ms new 0 k _ _ _ cap' (.inl ⟨_,zaa.set_same _ _ _⟩) (fun _=>by simp [Gh.atC,Gh.atφ]) (Nat.le_refl _) hge (fun _=>?_)⟩
 simp only [Gh.atC,if_true,Nat.zero_add]
 exact Nat.le_of_eq hsz.symm
theorem zqj {o:Oper} {new:Nat} {ρ:Operand->AV} {cρ:Operand->Value} {K:AV->zaa->Prop} (hp:Hp G H w) (hn:H new=none) (hρ:∀x,VR G H w (ρ x) (cρ x)) (h:zpc P new o.op ρ H K) :
  ∃r H',zv5 P G H w o cρ r H'/\(∀j,j≠new->H j=none->H' j=none)/\(∀c,o.op≠.defer c)/\K r H':=by
 unfold zpc at h
 split at h
 ·rename_i t n ps hop
  obtain ⟨k,es,hk,hes,hfit,hlen,hsmall,hK⟩:=h
  obtain ⟨e,it,z,he,hit,hzz,hzs,hpos,hb,hone⟩:=zdd hfit
  have hel:zcy P t=some e:=by simp [zcy,he]
  obtain ⟨hl,hq⟩:=zks hρ ps
  obtain ⟨cells',hrun,hcv,hsz,h1,hk0,_⟩:=zhh (w:=w) hk hel hes hfit hlen hsmall hl hq hp hn
  obtain ⟨q1,q2,_⟩:=zgv (ty:=e) hp hn hcv.1 hcv.2.1 hcv.2.2
  rcases hK with hK | hK
  ·refine ⟨.ms new 0 k n n,_,⟨.slice (some ⟨w.heap.size,0,none⟩) n n,_,_,?_,q1,q2,.ms new 0 k n n _ n (.inl ⟨_,zaa.set_same _ _ _⟩) (fun _=>by simp [Gh.atC,Gh.atφ]) (Nat.le_refl _) (Nat.le_refl _) (fun _=>by simp [Gh.atC,hsz])⟩,fun j hj h0=>by rw [zaa.set_ne _ _ hj];exact h0,fun c hc=>?_,hK⟩
   ·unfold execOp
    simp only [hop,Sem.run_bind,hrun,Result.andThen_ok,Sem.run_pure]
   ·rw [hop] at hc
    cases hc
  ·obtain ⟨p1,p2⟩:=zia (w:=w) hp (.cells cells' e)
   have hrow:RowVR G H (w.alloc (.cells cells' e)) k es cells'.toList:=(hcv.row h1).evo p2.evo
   refine ⟨.sl .clip k es,H,⟨.slice (some ⟨w.heap.size,0,none⟩) n n,_,G,?_,p1,p2,?_⟩,fun j hj h0=>h0,fun c hc=>?_,hK⟩
   ·unfold execOp
    simp only [hop,Sem.run_bind,hrun,Result.andThen_ok,Sem.run_pure]
   ·rw [←hlen]
    have hni:¬Im G H w.heap.size:=fun hi=>Nat.lt_irrefl _ (hp.lt hi)
    exact hrow.vr_clip (b:=w.heap.size) (fun j x hx=>by
     unfold World.cell?
     simp only [heap_alloc_new w _,Option.isSome_none,Bool.false_eq_true,if_false]
     simpa using hx) hk0 (zis.of_not_im hni _)
   ·rw [hop] at hc
    cases hc
 ·rename_i args argTypes hop
  obtain ⟨t,s,x,k,m,ds,rfl,rfl,hk,hfit,hsrc,h⟩:=h
  rcases h with ⟨rfl,tg,k',es,hs,hK⟩ | ⟨hm0,h⟩
  ·have hvs:=hρ s
   rw [hs] at hvs
   obtain ⟨e,it,z,he,hit,_⟩:=zdd hfit
   obtain ⟨as,caps,olds,hv,hcaps,_,_,_⟩:=hvs.row
   obtain ⟨ad,capx,xs,hx,_⟩:=zmj hp hsrc (hρ x)
   have hr:=zfO (P:=P) (w:=w) (ty:=o.type) he hit as ad es.length caps capx hcaps
   refine ⟨.sl .no k' es,H,⟨cρ s,w,G,?_,hp,.refl _ _ _,hvs.le (.sl _ _ _)⟩,fun j hj h0=>h0,fun c hc=>?_,hK⟩
   ·unfold execOp
    simp only [hop,resolve,Sem.run_bind,Sem.run_pure,Result.andThen_ok,invoke,builtin]
    simp [hv,hx,hr]
   ·rw [hop] at hc
    cases hc
  rcases h with ⟨i,off,n,cs,hs,hi,hcl,hle,hK,hK0⟩ | ⟨tg,es,hs,htg,hle,hK⟩
  ·have hvs:=hρ s
   rw [hs] at hvs
   obtain ⟨v',w',G',o',cs',ho,hr,q1,q2,q3⟩:=zor (P:=P) (t:=t) (ty:=o.type) hp hn hi hcl hsrc hk hfit hm0 hle hvs (hρ x)
   have hK':K (.ms new o' k (n+m) (n+m)) ((H.set i .ice).set new (.cells cs')):=by
    rcases ho with ⟨rfl,rfl⟩ | ⟨rfl,rfl⟩
    ·exact hK
    ·exact hK0
   refine ⟨.ms new o' k (n+m) (n+m),_,⟨v',w',G',?_,q1,q2,q3⟩,fun j hj h0=>?_,fun c hc=>?_,hK'⟩
   ·unfold execOp
    simp only [hop,resolve,Sem.run_bind,Sem.run_pure,Result.andThen_ok,invoke,builtin]
    simp [hr]
   ·rw [zaa.set_ne _ _ hj,zaa.set_ne _ _ (fun e=>by subst e;rw [hi] at h0;cases h0)]
    exact h0
   ·rw [hop] at hc
    cases hc
  ·have hvs:VR G H w (.sl tg k es) (cρ s):=by
    have h0:=hρ s
    rcases hs with hs | ⟨rfl,rfl,k',hs⟩
    ·rw [hs] at h0
     exact h0
    ·rw [hs] at h0
     generalize cρ s=vv at h0 ⊢
     cases h0 with
     | sl _ _ _ a cap b o f hcap _ _ _ _ ht=>exact .sl .nil k [] a cap b o f hcap (fun e h=>by simp at h) (fun h=>absurd rfl h) (fun i j e c h=>by simp at h) (fun i j e c h=>by simp at h) ht
   obtain ⟨v',w',G',hr,q1,q2,q3⟩:=zos (P:=P) (t:=t) (ty:=o.type) hp hn hsrc hk hfit hm0 hle htg hvs (hρ x)
   refine ⟨.ms new 0 k (es.length+m) (es.length+m),_,⟨v',w',G',?_,q1,q2,q3⟩,fun j hj h0=>?_,fun c hc=>?_,hK⟩
   ·unfold execOp
    simp only [hop,resolve,Sem.run_bind,Sem.run_pure,Result.andThen_ok,invoke,builtin]
    simp [hr]
   ·rw [zaa.set_ne _ _ hj]
    exact h0
   ·rw [hop] at hc
    cases hc
 ·rename_i t x y hop
  obtain ⟨n,e,z,hx,hy,h0,hle,he,hz,hk,hfit,hK⟩:=h
  obtain ⟨cells,hr,hs,h1,hv⟩:=znm hx (hρ x) hy (hρ y) hle he hz hk hfit
  obtain ⟨q1,q2,_⟩:=zgv (cs:=List.replicate n z) (vs:=cells) (ty:=e) hp hn (by rw [hs,List.length_replicate]) h1 (fun j c y hc hy=>by
   rw [List.eq_of_mem_replicate (List.mem_of_getElem? hc)]
   exact hv y (Array.mem_of_getElem? hy) _ _ _)
  have hφ:(G.atC new w.heap.size cells.size).φ new=w.heap.size:=by simp [Gh.atC,Gh.atφ]
  refine ⟨.ms new 0 1 n n,_,⟨.slice (some ⟨w.heap.size,0,none⟩) n n,_,_,?_,q1,q2,.ms new 0 1 n n _ n (.inl ⟨_,zaa.set_same _ _ _⟩) (fun _=>by rw [hφ]) (Nat.le_refl _) (Nat.le_refl _) (fun _=>by simp [Gh.atC,hs])⟩,fun j hj h0=>by rw [zaa.set_ne _ _ hj];exact h0,fun c hc=>?_,hK⟩
  ·unfold execOp
   simp only [hop,hr,Sem.run_bind,Result.andThen_ok,Sem.run_pure]
  ·rw [hop] at hc
   cases hc
 ·exact h.elim
end
end Go.AM
