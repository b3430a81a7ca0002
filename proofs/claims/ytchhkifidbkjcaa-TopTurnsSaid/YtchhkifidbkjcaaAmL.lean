/-
  The abstract machine: code, and the contract of a function.
  Conditions: none; it speaks of any program.
-/
import Derived.Test.YtchhkifidbkjcaaAmK
set_option linter.all false
namespace Go.AM
open Go Go.RowKit
theorem least {p:Nat->Prop} (h:∃n,p n):∃n,p n/\∀m,p m->n<=m:=by
 obtain ⟨n,hn⟩:=h
 induction n using Nat.strongRecOn with
 | _ n ih =>
  by_cases hx:∃m,m<n/\p m
  ·obtain ⟨m,hm,hpm⟩:=hx
   exact ih m hm hpm
  ·exact ⟨n,hn,fun m hm=>by
    rcases Nat.lt_or_ge m n with h | h
    ·exact absurd ⟨m,h,hm⟩ hx
    ·exact h⟩
theorem zry {F:Fence} {nn:Nat} {P:Program} {c:Code} {Q:Exit->Act->World->Prop} {a:Act} {w:World} (J:Nat->Act->World->Prop) (h0:∃n,J n a w)
  (round:∀n a w,J n a w->c.wpIn F nn P (Exit.then (fun a' w'=>∃m,m<n/\J m a' w') Q) a w):(Code.loop c).wpIn F nn P Q a w:=by
 classical
 let μ:Act->World->Nat:=fun a w=>if h:∃n,J n a w then Classical.choose (least h) else 0
 have hμ:∀a w,(∃n,J n a w)->J (μ a w) a w/\∀m,J m a w->μ a w<=m:=fun a w h=>by
  have:=Classical.choose_spec (least h)
  simp only [μ,dif_pos h]
  exact this
 refine wpIn_loop (fun a w=>∃n,J n a w) μ h0 fun a w h=>?_
 refine wpIn_mono (round (μ a w) a w (hμ a w h).1) fun e a' w' he=>?_
 cases e with
 | normal =>
  obtain ⟨m,hm,hj⟩:=he
  exact ⟨⟨m,hj⟩,Nat.lt_of_le_of_lt ((hμ a' w' ⟨m,hj⟩).2 m hj) hm⟩
 | exit id=>exact he
 | goto l=>exact he
 | ret=>exact he
 | panic ch=>exact he
 | outgrown=>exact he
section
variable {P:Program} {G0:Gh} {H0:zaa} {w0:World} {N:Nat}
theorem Sim.le {fr fr':Fr} {H:zaa} {a:Act} {w:World} (h:zkh fr' fr) (S:Sim G0 H0 w0 N fr H a w):Sim G0 H0 w0 N fr' H a w:=by
 obtain ⟨G,h1,h2,h3,h4,h5⟩:=S
 exact ⟨G,h1,h2,h3,h4,fun t ht=>(h5 t ht).le (h t)⟩
theorem Sim.drew {fr:Fr} {H:zaa} {a:Act} {w:World} (S:Sim G0 H0 w0 N fr H a w):Sim G0 H0 w0 N fr H a { w with drawn:=w.drawn+1 }:=by
 obtain ⟨G,h1,h2,h3,h4,h5⟩:=S
 obtain ⟨q1,q2⟩:=zne (w':={ w with drawn:=w.drawn+1 }) h1 rfl rfl rfl rfl
 exact ⟨G,q1,h2.trans q2,h3.ext q2,h4,fun t ht=>(h5 t ht).evo q2.evo⟩
theorem Sim.down {fr fr':Fr} {H H':zaa} {g g':Nat} {a:Act} {w:World} (h:zjc fr H g fr' H' g') (hf:za2 H g) (S:Sim G0 H0 w0 N fr H a w):Sim G0 H0 w0 N fr' H' a w/\za2 H' g':=by
 obtain ⟨G,h1,h2,h3,h4,h5⟩:=S
 obtain ⟨hf',h⟩:=h hf
 obtain ⟨G',p1,p2,p3⟩:=h G w h1
 exact ⟨⟨G',p1,h2.trans p2,h3.ext p2,h4,fun t ht=>p3 t _ (h5 t ht)⟩,hf'⟩
theorem VR.inH {G:Gh} {H:zaa} {w:World} {a:AV} {x:Value} (h:VR G H w a x):In H a:=by
 induction h with
 | any=>exact .any
 | v=>exact .v _
 | agg cs vs hl h1 h ih =>
  refine .agg cs fun c hc=>?_
  obtain ⟨i,hi⟩:=List.getElem?_of_mem hc
  have hlt:=(List.getElem?_eq_some_iff.1 hi).1
  exact ih i c vs[i] hi (Array.getElem?_eq_getElem (by omega))
 | tup cs vs hl h ih =>
  refine .tup cs fun c hc=>?_
  obtain ⟨i,hi⟩:=List.getElem?_of_mem hc
  have hlt:=(List.getElem?_eq_some_iff.1 hi).1
  exact ih i c vs[i] hi (Array.getElem?_eq_getElem (by omega))
 | ptr i off h=>exact .ptr i off h
 | ms i off k n c a cap h ha hn hc hz=>exact .ms i off k n c h
 | sl t k es a cap b o f hcap hs ha hc hv ht ih =>
  refine .sl t k es (fun τ e=>?_) fun e he c hc=>?_
  ·subst e
   obtain ⟨e,n,hn,_⟩:=ht
   exact ⟨e,n,hn⟩
  ·obtain ⟨i,hi⟩:=List.getElem?_of_mem he
   obtain ⟨j,hj⟩:=List.getElem?_of_mem hc
   exact ih i j e c hi hj
 | ep cs b o f ha hc hv ih =>
  refine .ep cs fun c hc=>?_
  obtain ⟨j,hj⟩:=List.getElem?_of_mem hc
  exact ih j c hj
 | yld i ts cs q p h hv ih=>exact .yld i ts cs q p h ih
 | mp i k p h=>exact .mp i k p h
 | it j i a k k' p p' hj hi ha=>exact .it j i a k k' p p' hj hi
 | fn f first cap v1 v2 h1 h2 hf hc ihf ihc =>
  refine .fn f first cap (fun c hc=>?_) fun c hc=>?_
  ·obtain ⟨i,hi⟩:=List.getElem?_of_mem hc
   have hlt:=(List.getElem?_eq_some_iff.1 hi).1
   exact ihf i c v1[i] hi (Array.getElem?_eq_getElem (by omega))
  ·obtain ⟨i,hi⟩:=List.getElem?_of_mem hc
   have hlt:=(List.getElem?_eq_some_iff.1 hi).1
   exact ihc i c v2[i] hi (Array.getElem?_eq_getElem (by omega))
theorem Pure.inH {H:zaa} {a:AV} (h:Pure a):In H a:=by
 induction h with
 | any=>exact .any
 | v=>exact .v _
 | agg cs h ih=>exact .agg cs ih
 | tup cs h ih=>exact .tup cs ih
 | sl k es h ih=>exact .sl .no k es (fun τ e=>by cases e) ih
 | clip k es h ih=>exact .sl .clip k es (fun τ e=>by cases e) ih
 | fr k es h ih=>exact .sl .fr k es (fun τ e=>by cases e) ih
 | od k es h ih=>exact .sl .od k es (fun τ e=>by cases e) ih
 | nil k es h ih=>exact .sl .nil k es (fun τ e=>by cases e) ih
 | fn f a b h1 h2 ih1 ih2=>exact .fn f a b ih1 ih2
 | ep cs h ih=>exact .ep cs ih
theorem In.mono {H H':zaa} (hc:∀i,H.cel i->H'.cel i) (hr:∀i e n,H i=some (.row e n)->∃n',H' i=some (.row e n')) (ho:∀i k p,H i=some (.obj k p)->∃p',H' i=some (.obj k p')) {a:AV} (h:In H a):In H' a:=by
 induction h with
 | any=>exact .any
 | v=>exact .v _
 | agg cs h ih=>exact .agg cs ih
 | tup cs h ih=>exact .tup cs ih
 | ptr i off h=>exact .ptr i off (hc i h)
 | ms i off k n c h=>exact .ms i off k n c (hc i h)
 | sl t k es ht h ih=>exact .sl t k es (fun τ e=>by obtain ⟨e',n,hn⟩:=ht τ e;obtain ⟨n',h'⟩:=hr τ e' n hn;exact ⟨e',n',h'⟩) ih
 | ep cs h ih=>exact .ep cs ih
 | yld i ts cs q p h _ ih=>obtain ⟨p',h'⟩:=ho i _ p h;exact .yld i ts cs q p' h' ih
 | mp i k p h=>obtain ⟨p',h'⟩:=ho i k p h;exact .mp i k p' h'
 | it j i a k k' p p' hj hi=>obtain ⟨p1,h1⟩:=ho j k p hj;obtain ⟨p2,h2⟩:=ho i k' p' hi;exact .it j i a k k' p1 p2 h1 h2
 | fn f a b h1 h2 ih1 ih2=>exact .fn f a b ih1 ih2
theorem zis.sub {G:Gh} {H H':zaa} {b n:Nat} (hsub:∀i x,H' i=some x->H i=some x) (h:zis G H b n):zis G H' b n :=
 ⟨fun i cs hi=>h.1 i cs (hsub i _ hi),fun i e m hi=>h.2 i e m (hsub i _ hi)⟩
theorem VR.back {G:Gh} {H H':zaa} {w:World} (hsub:∀i x,H' i=some x->H i=some x) {a:AV} {x:Value} (hin:In H' a) (h:VR G H w a x):VR G H' w a x:=by
 induction h with
 | any x=>exact .any x
 | v x=>exact .v x
 | agg cs vs hl h1 _ ih=>cases hin with | agg _ hi=>exact .agg cs vs hl h1 fun i c x hc hx=>ih i c x hc hx (hi c (List.mem_of_getElem? hc))
 | tup cs vs hl _ ih=>cases hin with | tup _ hi=>exact .tup cs vs hl fun i c x hc hx=>ih i c x hc hx (hi c (List.mem_of_getElem? hc))
 | ptr i off h=>cases hin with | ptr _ _ h'=>exact .ptr i off h'
 | ms i off k n c a cap h ha hn hc hz=>cases hin with | ms _ _ _ _ _ h'=>exact .ms i off k n c a cap h' ha hn hc hz
 | sl t k es a cap b o f hcap hs ha hc hv ht ih =>
  cases hin with
  | sl _ _ _ hti hi =>
   refine .sl t k es a cap b o f hcap hs (fun hne=>⟨(ha hne).1,(ha hne).2.1,(ha hne).2.2.sub hsub⟩) hc (fun i j e c he hc=>ih i j e c he hc (hi e (List.mem_of_getElem? he) c (List.mem_of_getElem? hc))) ?_
   cases t with
   | no=>trivial
   | clip=>exact ht
   | nil=>exact ht
   | od=>exact ht
   | fr =>
    rcases ht with h | ⟨b,n,c,vs,ty,h1,⟨h2,h3⟩,h4,h5⟩
    ·exact .inl h
    ·exact .inr ⟨b,n,c,vs,ty,h1,⟨h2,fun m=>(h3 m).sub hsub⟩,h4,h5⟩
   | id τ =>
    obtain ⟨e,n,hn,r1,r2,r3⟩:=ht
    obtain ⟨e',n',hn'⟩:=hti τ rfl
    have:=hsub τ _ hn'
    rw [hn] at this
    injection this with this
    injection this with q1 q2
    subst q1 q2
    exact ⟨e,n,hn',r1,r2,r3⟩
 | ep cs b o f ha hc hv ih=>cases hin with | ep _ hi=>exact .ep cs b o f (fun hne=>(ha hne).sub hsub) hc fun j c hj=>ih j c hj (hi c (List.mem_of_getElem? hj))
 | yld i ts cs q p h hv ih =>
  cases hin with
  | yld _ _ _ q' p' h' hi =>
   have:=hsub i _ h'
   rw [h] at this
   injection this with this
   injection this with q1 q2
   injection q1 with q1
   subst q1
   exact .yld i ts cs q p' h' fun j t c h1 h2=>ih j t c h1 h2 (hi j t c h1 h2)
 | mp i k p h=>cases hin with | mp _ k' p' h'=>exact .mp i k' p' h'
 | it j i a k k' p p' hj hi ha=>cases hin with | it _ _ _ k1 k2 p1 p2 h1 h2=>exact .it j i a k1 k2 p1 p2 h1 h2 ha
 | fn f first cap v1 v2 h1 h2 _ _ ihf ihc =>
  cases hin with
  | fn _ _ _ i1 i2=>exact .fn f first cap v1 v2 h1 h2 (fun i c x hc hx=>ihf i c x hc hx (i1 c (List.mem_of_getElem? hc))) (fun i c x hc hx=>ihc i c x hc hx (i2 c (List.mem_of_getElem? hc)))
theorem zfD {G G1:Gh} {H H1 H':zaa} {w w1:World} (hp:Hp G H w) (hp1:Hp G1 H1 w1) (hE:Ext G H w G1 H1 w1) (hsub:∀i x,H' i=some x->H1 i=some x)
  (hc:∀i,H.cel i->H'.cel i) (hr:∀i e n,H i=some (.row e n)->∃n',H' i=some (.row e n')) (ho:∀i k p,H i=some (.obj k p)->∃p',H' i=some (.obj k p'))
  (hcl:∀i cs,H' i=some (.cells cs)->H i=some (.cells cs)\/∀c,c∈cs->In H' c):Hp G1 H' w1/\Ext G H w G1 H' w1:=by
 have him:∀b,Im G1 H' b->Im G1 H1 b:=fun b h=>by
  rcases h with ⟨i,cs,hi,h⟩ | ⟨i,e,n,hi,h⟩ | ⟨i,k,p,hi,h⟩
  ·exact .inl ⟨i,cs,hsub i _ hi,h⟩
  ·exact .inr (.inl ⟨i,e,n,hsub i _ hi,h⟩)
  ·exact .inr (.inr ⟨i,k,p,hsub i _ hi,h⟩)
 refine ⟨⟨fun i cs hi=>?_,fun i e n hi=>hp1.rows i e n (hsub i _ hi),fun i j cs ds hi hj=>hp1.inj i j cs ds (hsub i _ hi) (hsub j _ hj),fun i j cs e n hi hj=>hp1.sep i j cs e n (hsub i _ hi) (hsub j _ hj),fun i j d m e n b hi hj=>hp1.own i j d m e n b (hsub i _ hi) (hsub j _ hj),fun i k p hi=>hp1.objs i k p (hsub i _ hi),fun i j k k' p q hi hj=>hp1.oinj i j k k' p q (hsub i _ hi) (hsub j _ hj),hp1.lo⟩,
  ⟨⟨fun i hi=>⟨(hE.evo.cells i hi).1,hc i hi⟩,fun i e n hi=>?_,fun i k p hi=>⟨(hE.evo.obj i k p hi).1,ho i k p hi⟩,fun b n hf=>⟨(hE.evo.keep b n hf).1,fun hb=>((hE.evo.keep b n hf).2 hb).sub hsub⟩,hE.evo.lo,hE.evo.whole⟩,hE.os,hE.tape,hE.output,hE.size,hE.block,fun b h=>hE.im b (him b h)⟩⟩
 ·obtain ⟨vs,ty,hg,hs,h1,hv⟩:=hp1.cells i cs (hsub i _ hi)
  refine ⟨vs,ty,hg,hs,h1,fun j c x hcj hx=>(hv j c x hcj hx).back hsub ?_⟩
  rcases hcl i cs hi with h | h
  ·obtain ⟨us,tu,_,hus,_,huv⟩:=hp.cells i cs h
   have hlt:j<us.size:=by have:=(List.getElem?_eq_some_iff.1 hcj).1;omega
   exact ((huv j c us[j] hcj (Array.getElem?_eq_getElem hlt)).inH).mono hc hr ho
  ·exact h c (List.mem_of_getElem? hcj)
 ·obtain ⟨h1,n',h2,h3,h4⟩:=hE.evo.row i e n hi
  obtain ⟨n'',h5⟩:=hr i e n hi
  have:=hsub i _ h5
  rw [h2] at this
  injection this with this
  injection this with _ this
  subst this
  exact ⟨h1,n',h5,h3,h4⟩
theorem ztw (x:Blk):kin x x:=by cases x<;>simp [kin]
theorem zg7.mem {L M:BL} (h:zg7 L M) {i:Nat} {y:Blk} (hm:(i,y)∈M):∃x,(i,x)∈L/\kin x y:=by
 induction L generalizing M with
 | nil=>cases M with
  | nil=>simp at hm
  | cons q M=>exact h.elim
 | cons p L ih=>cases M with
  | nil=>exact h.elim
  | cons q M =>
   obtain ⟨h1,h2,h3⟩:=h
   rcases List.mem_cons.1 hm with rfl | hm
   ·exact ⟨p.2,by have h4:p.1=i:=h1;rw [←h4];simp,h2⟩
   ·obtain ⟨x,a,b⟩:=ih h3 hm
    exact ⟨x,by simp [a],b⟩
theorem zpi {H:zaa} {L M:BL} (hk:zg7 L M) (hh:Has H L) (nd:(ids M).Nodup):∀i x,H i=some x->∃y,(H.puts M) i=some y/\kin x y:=fun i x hx=>by
 by_cases hm:i∈ids M
 ·obtain ⟨y,hy⟩:=zfP hm
  obtain ⟨x',h1,h2⟩:=hk.mem hy
  have:=hh _ h1
  rw [hx] at this
  injection this with this
  subst this
  exact ⟨y,zgU H nd _ hy,h2⟩
 ·exact ⟨x,by rw [zei H hm];exact hx,ztw x⟩
theorem zmn {G G1:Gh} {H H1:zaa} {w w1:World} (hp:Hp G H w) (hp1:Hp G1 H1 w1) (hE:Ext G H w G1 H1 w1) {L L':BL} (hk:zg7 L L') (hh:Has H L) (nd:(ids L').Nodup) (hin:InB In L')
  (h1:Has H1 L') (h2:∀i x,H i=some x->i∉ids L'->H1 i=some x):Hp G1 (H.puts L') w1/\Ext G H w G1 (H.puts L') w1:=by
 have hkp:=zpi hk hh nd
 refine zfD hp hp1 hE (fun i x hi=>?_) (fun i hi=>?_) (fun i e n hi=>?_) (fun i k p hi=>?_) (fun i cs hi=>?_)
 ·rcases zhL hi with h | ⟨ha,hb⟩
  ·exact h1 _ h
  ·exact h2 i x hb ha
 ·rcases hi with ⟨cs,hi⟩ | hi
  ·obtain ⟨y,hy,hky⟩:=hkp i _ hi
   cases y with
   | cells cs'=>exact .inl ⟨cs',hy⟩
   | _=>exact hky.elim
  ·obtain ⟨y,hy,hky⟩:=hkp i _ hi
   cases y with
   | ice=>exact .inr hy
   | _=>exact hky.elim
 ·obtain ⟨y,hy,hky⟩:=hkp i _ hi
  cases y with
  | row e' n'=>rw [show e=e' from hky];exact ⟨n',hy⟩
  | _=>exact hky.elim
 ·obtain ⟨y,hy,hky⟩:=hkp i _ hi
  cases y with
  | obj k' p'=>rw [show k=k' from hky];exact ⟨p',hy⟩
  | _=>exact hky.elim
 ·rcases zhL hi with h | ⟨ha,hb⟩
  ·exact .inr fun c hc=>hin _ cs h rfl c hc _ (zgU H nd)
  ·exact .inl hb
theorem zrz {G:Gh} {H:zaa} {w:World} (hp:Hp G H w) {D:Nat} (hD:¬Im G H D) {o0 o:Obj} (h0:w.heap[D]?=some o0) (hnc:∀vs ty fr,o0≠.cells vs ty fr) :
  Hp G H (w.putObj D o)/\Evo G H w G H (w.putObj D o):=by
 have hb:∀b,b≠D->(w.putObj D o).heap[b]?=w.heap[b]?:=fun b h=>World.putObj_heap_other h
 have hcb:∀b j x,w.cell? ⟨b,j,none⟩=some x->b≠D:=fun b j x hx e=>by
  subst e
  unfold World.cell? at hx
  simp only [h0] at hx
  cases o0 with
  | cells vs ty fr=>exact hnc _ _ _ rfl
  | _=>simp at hx
 have E:Evo G H w G H (w.putObj D o):=⟨fun i hi=>⟨rfl,hi⟩,fun i e n hi=>⟨rfl,n,hi,Nat.le_refl _,fun _=>rfl⟩,fun i k p hi=>⟨rfl,p,hi⟩,
  fun b n hf=>⟨fun k x _ hx=>by rw [←hx];exact World.cell?_of_block (a:=⟨b,k,none⟩) (hb b (hcb b k x hx)),fun _=>hf⟩,rfl,fun b _ vs ty fr h=>(hb b (fun e=>by rw [e,h0] at h;injection h with h;exact hnc _ _ _ h)).trans h⟩
 refine ⟨⟨fun i cs hi=>?_,fun i d n hi=>?_,hp.inj,hp.sep,hp.own,fun i k p hi=>?_,hp.oinj,hp.lo_le (by simp)⟩,E⟩
 ·obtain ⟨vs,ty,hg,hs,h1,hv⟩:=hp.cells i cs hi
  exact ⟨vs,ty,by rw [hb _ (fun e=>hD (.inl ⟨i,cs,hi,e⟩))];exact hg,hs,h1,fun j c x hc hx=>(hv j c x hc hx).evo E⟩
 ·obtain ⟨hz,xs,a1,a2⟩:=hp.rows i d n hi
  refine ⟨hz,xs,a1,a2.imp id ?_⟩
  rintro ⟨g,cap,cur,b1,b2,b3,b4⟩
  exact ⟨g,cap,cur,b1,b2,by rw [hb g (fun e=>hD (.inr (.inl ⟨i,d,n,hi,by rw [b1,←e];rfl⟩)))];exact b3,b4⟩
 ·obtain ⟨o',ho',h3⟩:=hp.objs i k p hi
  exact ⟨o',by rw [hb _ (fun e=>hD (.inr (.inr ⟨i,k,p,hi,e⟩)))];exact ho',h3⟩
theorem zdO {P:Program} {F:Fence} {nn:Nat} {fn:Func} {tmps:Array Value} {R:Ending->World->Prop} {G G1:Gh} {H H1:zaa} {w:World}:∀(Ds:List Nat) (w1:World),Hp G1 H1 w1->Ext G H w G1 H1 w1->Ds.Nodup ->
  (∀D,D∈Ds->w.heap.size<=D/\w1.heap[D]?=some (.deferred (some []))/\¬Im G1 H1 D) ->
  (∀w2,Hp G1 H1 w2->Ext G H w G1 H1 w2->Evo G1 H1 w1 G1 H1 w2->∃v,(results fn tmps).run P w2=.ok v w2/\R (.returned v) w2) ->
  LeavesInM F nn P fn tmps R (Ds.map (fun D=>{ target:=.collected D,args:=#[] })) .returning w1
 | [],w1,hp,hE,_,_,hfin=>hfin w1 hp hE (.refl _ _ _)
 | D::Ds,w1,hp,hE,hnd,hD,hfin=>by
  obtain ⟨h1,h2,h3⟩:=hD D (by simp)
  have hnd':=List.nodup_cons.1 hnd
  obtain ⟨hp',hE'⟩:=zrz (o:=.deferred none) hp h3 h2 (fun _ _ _ e=>by cases e)
  refine ⟨by simp,.inl ⟨D,_,rfl,run_takeDeferred h2,?_⟩⟩
  refine zdO Ds _ hp' ⟨hE.evo.trans hE' hE.size,hE.os,hE.tape,hE.output,by simpa using hE.size,fun b hb hi=>?_,fun b hb=>?_⟩ hnd'.2 (fun D' hD'=>?_) fun w2 a b c=>hfin w2 a b (hE'.trans c (by simp))
  ·rw [World.putObj_heap_other (by omega)]
   exact hE.block b hb hi
  ·exact hE.im b hb
  ·obtain ⟨q1,q2,q3⟩:=hD D' (by simp [hD'])
   exact ⟨q1,by rw [World.putObj_heap_other (show D'≠D from fun e=>hnd'.1 (e▸hD'))];exact q2,q3⟩
theorem zuu {G:Gh} {H:zaa} {w:World} {N:Nat}:∀(ps:List Tmp) (xs:List AV) (vs:List Value) (fr:Fr) (tm:Array Value),tm.size=N->(∀t,t<N->VR G H w (fr t) (tm.getD t undef))->xs.length=vs.length ->
  (∀(i:Nat) (c:AV) (x:Value),xs[i]?=some c->vs[i]?=some x->VR G H w c x) ->
  ((ps.zip vs).foldl (fun tmps q=>tmps.setIfInBounds q.1 q.2) tm).size=N/\∀t,t<N->VR G H w ((ps.zip xs).foldl (fun fr q=>fr.put N (some q.1) q.2) fr t) (((ps.zip vs).foldl (fun tmps q=>tmps.setIfInBounds q.1 q.2) tm).getD t undef)
 | [],_,_,fr,tm,hs,h,_,_=>⟨by simpa using hs,by simpa using h⟩
 | p::ps,[],vs,fr,tm,hs,h,hl,_=>by
  cases vs with
  | nil=>exact ⟨by simpa using hs,by simpa using h⟩
  | cons v vs=>simp at hl
 | p::ps,x::xs,vs,fr,tm,hs,h,hl,hx=>by
  cases vs with
  | nil=>simp at hl
  | cons v vs =>
   simp only [List.zip_cons_cons,List.foldl_cons]
   have h1:=zut (a:={ tmps:=tm,defers:=[] }) hs h (hx 0 x v rfl rfl) (some p)
   exact zuu ps xs vs (fr.put N (some p) x) (tm.setIfInBounds p v) h1.2.1 h1.2.2 (by simpa using hl) fun i c y hc hy=>hx (i+1) c y (by simpa using hc) (by simpa using hy)
theorem ztx (ps:Array Tmp) (vs:Array Value) (tm:Array Value):(ps.zip vs).foldl (fun tmps (t,a)=>tmps.setIfInBounds t a) tm=(ps.toList.zip vs.toList).foldl (fun tmps q=>tmps.setIfInBounds q.1 q.2) tm:=by
 rw [←Array.foldl_toList,Array.toList_zip]
def zuT (P:Program) (N:Nat) (c:Code):Prop:=∀(ro:Option Nat) (nn:Nat) (G0:Gh) (H0:zaa) (w0:World) (Q:Exit->Fr->zaa->Nat->Prop) (fr:Fr) (H:zaa) (g:Nat) (a:Act) (w:World) (C:Exit->Act->World->Prop),
  (ro=none\/zjB c=true)->wpA P N c Q fr H g->Sim G0 H0 w0 N fr H a w->za2 H g->(∀e fr' H' g' a' w',Q e fr' H' g'->Sim G0 H0 w0 N fr' H' a' w'->za2 H' g'->C e a' w')->c.wpIn (FR ro) nn P C a w
set_option maxHeartbeats 2000000 in
theorem zoz {gop:Operand} {ps:Array Tmp} {asg body:Code} (ihA:zuT P N asg) (ihB:zuT P N body):zuT P N (.rangeFunc gop ps asg body):=by
 intro ro nn G0 H0 w0 Q fr H g a w C hro h S hf hC
 simp only [wpA] at h
 obtain ⟨hna,hnb,k,first,cap,hev,S',Lo,A,A',pe,R,s0,ts,cs,hR⟩:=h
 have hro:ro=none:=by
  rcases hro with h | h
  ·exact h
  ·cases h
 subst hro
 obtain ⟨G,hp,hE,hM,hN,hv⟩:=S
 refine wpIn_rangeFunc fun fn _=>?_
 have hg:=zot hv gop
 rw [hev] at hg
 generalize hgv:a.eval gop=gv at hg
 cases hg with
 | fn _ _ _ v1 v2 h1 h2 h3 h4 =>
 let q:Loop:={ state:=.ready,pending:=none,fn:=fn,tmps:=a.tmps,params:=ps,assign:=asg,body:=body,defers:=w.heap.size }
 have hgn:H g=none:=hf g (Nat.le_refl _)
 obtain ⟨hp1,hE1⟩:=zia hp (.deferred (some []))
 obtain ⟨hp2,hE2⟩:=zoi hp1 hgn (k:=some q) (p:=zhd q none) (o:=.loop q) ⟨rfl,.ready,none,rfl⟩ (fun _ _ _ e=>by cases e)
 have hgids:∀s,g∉ids (Lo s):=fun s hm=>by
  rw [(hR.kinds s s0).ids] at hm
  obtain ⟨b,hb⟩:=zfP hm
  have:=hR.has _ (List.mem_append.2 (.inr hb))
  rw [hgn] at this
  cases this
 have hndM:∀s b,(ids ((g,b)::Lo s)).Nodup:=fun s b=>by
  simp only [ids,List.map_cons,List.nodup_cons]
  exact ⟨hgids s,by have:=(List.nodup_append.1 (show (ids A++ids (Lo s0)).Nodup by have:=hR.nd;simpa only [ids,List.map_append] using this)).2.1;rw [←(hR.kinds s s0).ids] at this;exact this⟩
 have hidsM:∀s p,p∈Lo s->p.1∈ids (Lo s):=fun s p hp=>List.mem_map_of_mem (f:=(·.1)) hp
 have hidA:ids A=ids A':=hR.kinA.ids
 have hgA:g∉ids A:=fun hm=>by
  obtain ⟨b,hb⟩:=zfP hm
  have:=hR.has _ (List.mem_append.2 (.inl hb))
  rw [hgn] at this
  cases this
 have hndA:∀s b,(ids (A'++(g,b)::Lo s)).Nodup:=fun s b=>by
  have h1:=List.nodup_append.1 (show (ids A++ids (Lo s0)).Nodup by have:=hR.nd;simpa only [ids,List.map_append] using this)
  rw [show ids (A'++(g,b)::Lo s)=ids A'++g::ids (Lo s) by simp [ids],←hidA,(hR.kinds s s0).ids]
  refine List.nodup_append.2 ⟨h1.1,List.nodup_cons.2 ⟨hgids s0,h1.2.1⟩,fun a ha c hc e=>?_⟩
  subst e
  rcases List.mem_cons.1 hc with rfl | hc
  ·exact hgA ha
  ·exact h1.2.2 a ha a hc rfl
 have hidsA:∀p,p∈A'->p.1∈ids A:=fun p hp=>by rw [hidA];exact List.mem_map_of_mem (f:=(·.1)) hp
 have hidsA0:∀p,p∈A->p.1∈ids A:=fun p hp=>List.mem_map_of_mem (f:=(·.1)) hp
 obtain ⟨rv,sF,hc1,hc2⟩:=hR.contract q rfl
 have hys:∀xs s b s',R xs s b s'->zvT P g ts cs xs ((g,.obj (some q) (zhd q (pe s)))::Lo s) (.v (.bool b)) ((g,.obj (some q) (zhd q (pe s')))::Lo s'):=by
  intro xs s b s' hr
  obtain ⟨hpe,hxl,hasg⟩:=hR.round xs s b s' hr
  refine ⟨⟨rfl,rfl,hR.kinds s s'⟩,fun n Gx Hx gx wx vs hfx hhas hpx hyv hvs=>?_⟩
  have hHg:Hx g=some (.obj (some q) (zhd q (pe s))):=hhas (g,.obj (some q) (zhd q (pe s))) (by simp)
  have hLo:Has Hx (Lo s):=fun p hp=>hhas p (by simp [hp])
  obtain ⟨o,ho,⟨hrec,_⟩,_⟩:=hpx.objs g _ _ hHg
  rw [hpe] at hrec
  have hrec:o=.loop q:=hrec
  subst hrec
  have hsz:vs.size=ps.size:=by rw [hvs.1,hxl];simp
  refine ⟨q,ho,hsz,roundIn_of_wpIn trivial ?_⟩
  have hrb:∀t,t<N->VR Gx Hx wx ((fun t=>match (ts.zip cs).find? (fun q=>q.1==t) with | some q=>q.2 | none=>.any) t) (a.tmps.getD t undef):=by
   intro t ht
   dsimp only
   split
   ·rename_i q' hq
    have h1:=List.find?_some hq
    have h2:=List.mem_of_find?_eq_some hq
    have h1:q'.1=t:=by simpa using h1
    obtain ⟨j,hj⟩:=List.getElem?_of_mem h2
    obtain ⟨hj1,hj2⟩:=List.getElem?_zip_eq_some.1 hj
    cases hyv with
    | yld _ _ _ q2 p2 h3 h4 =>
     rw [hHg] at h3
     injection h3 with h3
     injection h3 with h3 _
     injection h3 with h3
     subst h3
     have:=h4 j q'.1 q'.2 hj1 hj2
     rw [h1] at this
     exact this
   ·exact .any _
  have hfr:=zuu (N:=N) ps.toList xs vs.toList _ a.tmps hN hrb (by rw [←hvs.1];simp) (fun i c x hc hx=>hvs.2 i c x hc (by simpa using hx))
  rw [ztx]
  have SR:Sim Gx Hx wx N (rFr N ps.toList ts cs xs) Hx { tmps:=(ps.toList.zip vs.toList).foldl (fun tmps q=>tmps.setIfInBounds q.1 q.2) a.tmps,defers:=[] } wx :=
   ⟨Gx,hpx,.refl _ _ _,.nil _ _ _ _,hfr.1,hfr.2⟩
  have hgx:g<gx:=by
   rcases Nat.lt_or_ge g gx with h | h
   ·exact h
   ·rw [hfx g h] at hHg;cases hHg
  refine ihA (some (Gx.φ g)) n Gx Hx wx _ _ _ gx _ _ _ (.inr hna) (hasg Hx gx hfx hLo hgx) SR hfx ?_
  rintro e fr2 H2 g2 a2 w2 ⟨rfl,hsame,fr3,hle,hbody⟩ S2 hf2
  obtain ⟨G2,hp2',hE2',hM2,hN2,hv2⟩:=S2
  have hH2g:H2 g=some (.obj (some q) (zhd q (pe s))):=by rw [hsame g hgx];exact hHg
  have hφ2:G2.φ g=Gx.φ g:=(hE2'.evo.obj g _ _ hHg).1
  obtain ⟨o2,ho2,⟨hrec2,_⟩,hnc2⟩:=hp2'.objs g _ _ hH2g
  rw [hpe] at hrec2
  have hrec2:o2=.loop q:=hrec2
  subst hrec2
  rw [hφ2] at ho2
  refine ⟨_,run_beginRound ho2 rfl,?_⟩
  obtain ⟨hp3,hE3⟩:=zhe hp2' hH2g (p':=zur q) (o:=.loop { q with state:=.busy }) ⟨⟨none,rfl⟩,.busy,none,rfl⟩ (fun _ _ _ e=>by cases e)
  rw [hφ2] at hp3 hE3
  have hg2:g<g2:=by
   rcases Nat.lt_or_ge g g2 with h | h
   ·exact h
   ·rw [hf2 g h] at hH2g;cases hH2g
  have hf3:za2 (H2.set g (.obj (some q) (zur q))) g2:=fun i hi=>by rw [zaa.set_ne _ _ (by omega)];exact hf2 i hi
  have S3:Sim Gx Hx wx N fr3 (H2.set g (.obj (some q) (zur q))) a2 (w2.putObj (Gx.φ g) (.loop { q with state:=.busy })) :=
   ⟨G2,hp3,hE2'.trans hE3,hM2.ext hE3,hN2,fun t ht=>((hv2 t ht).le (hle t)).evo hE3.evo⟩
  refine ihB (some (Gx.φ g)) n Gx Hx wx _ _ _ g2 _ _ _ (.inr hnb) (hbody q) S3 hf3 ?_
  rintro e fr4 H4 g4 a4 w4 ⟨hje,hLo4,hold4⟩ S4 hf4
  obtain ⟨G4,hp4,hE4,_,_,_⟩:=S4
  have hH4g:H4 g=some (.obj (some q) (zur q)):=by rw [hold4 g ⟨hgx,hgids s⟩];exact zaa.set_same _ _ _
  have hφ4:G4.φ g=Gx.φ g:=(hE4.evo.obj g _ _ hHg).1
  obtain ⟨o4,ho4,⟨⟨pe4,hrec4⟩,_⟩,_⟩:=hp4.objs g _ _ hH4g
  subst hrec4
  rw [hφ4] at ho4
  obtain ⟨hp5,hE5⟩:=zhe hp4 hH4g (p':=zhd q (pe s')) (o:=.loop { q with state:=if (pe s').isNone then .ready else .done,pending:=pe s' }) ⟨rfl,_,_,rfl⟩ (fun _ _ _ e=>by cases e)
  rw [hφ4] at hp5 hE5
  have hrun:=run_endRound (P:=P) (pe s') ho4
  have hfin:∃v w',(Instr.endRound (Gx.φ g) (pe s')).run P w4=.ok v w'/\∃v' G',Ending.returned v=.returned v'/\Hp G' (Hx.puts ((g,.obj (some q) (zhd q (pe s')))::Lo s')) w' /\
    Ext Gx Hx wx G' (Hx.puts ((g,.obj (some q) (zhd q (pe s')))::Lo s')) w'/\VR G' (Hx.puts ((g,.obj (some q) (zhd q (pe s')))::Lo s')) w' (.v (.bool b)) v':=by
   refine ⟨_,_,hrun,_,G4,rfl,?_⟩
   obtain ⟨q1,q2⟩:=zmn (L:=(g,.obj (some q) (zhd q (pe s)))::Lo s) (L':=(g,.obj (some q) (zhd q (pe s')))::Lo s') hpx hp5 (hE4.trans hE5) ⟨rfl,rfl,hR.kinds s s'⟩ hhas (hndM s' _)
    (fun p ds hm he c hc H' hH'=>by
     rcases List.mem_cons.1 hm with rfl | hm
     ·cases he
     ·exact hR.isin s' p ds hm he c hc H' fun p hp=>hH' p (by simp [hp]))
    (fun p hm=>by
     rcases List.mem_cons.1 hm with rfl | hm
     ·exact zaa.set_same _ _ _
     ·rw [zaa.set_ne _ _ (show p.1≠g from fun e=>hgids s' (e▸hidsM s' p hm))];exact hLo4 p hm)
    (fun i x hi hni=>by
     simp only [ids,List.map_cons,List.mem_cons,not_or] at hni
     have hi2:i<gx:=by
      rcases Nat.lt_or_ge i gx with h | h
      ·exact h
      ·rw [hfx i h] at hi;cases hi
     rw [zaa.set_ne _ _ hni.1,hold4 i ⟨hi2,fun hm=>hni.2 (by rw [(hR.kinds s s').ids] at hm;exact hm)⟩,zaa.set_ne _ _ hni.1]
     exact hi)
   refine ⟨q1,q2,?_⟩
   have hbb:(pe s').isNone=b:=by
    cases hps:pe s' with
    | none=>rw [hps] at hje;simp [hje.1]
    | some c=>rw [hps] at hje;simp [hje.1]
   rw [hbb]
   exact .v _
  cases hps:pe s' with
  | none =>
   rw [hps] at hje hfin
   obtain ⟨_,rfl⟩:=hje
   exact hfin
  | some c =>
   rw [hps] at hje hfin
   obtain ⟨_,hj⟩:=hje
   cases c<;>simp only [zlF] at hj<;>first | (injection hj with hj;subst hj;exact hfin) | cases hj
 have hf1:za2 (H.set g (.obj (some q) (zhd q none))) (g+1):=fun i hi=>by rw [zaa.set_ne _ _ (by omega)];exact hf i (by omega)
 have hhas1:Has (H.set g (.obj (some q) (zhd q none))) (A++(g,.obj (some q) (zhd q none))::Lo s0):=fun p hm=>by
  rcases List.mem_append.1 hm with hm | hm
  ·rw [zaa.set_ne _ _ (show p.1≠g from fun e=>hgA (e▸hidsA0 p hm))];exact hR.has p (List.mem_append.2 (.inl hm))
  rcases List.mem_cons.1 hm with rfl | hm
  ·exact zaa.set_same _ _ _
  ·rw [zaa.set_ne _ _ (show p.1≠g from fun e=>hgids s0 (e▸hidsM s0 p hm))];exact hR.has p (List.mem_append.2 (.inr hm))
 obtain ⟨⟨fnk,code,hfun,hbody,hname⟩,hcalls⟩:=hc1 hys _ (g+1) hf1 hhas1
 have hsz1:(w.alloc (.deferred (some []))).heap.size=w.heap.size+1:=by simp
 have hEa:=hE1.trans hE2
 have hyv:VR (G.atφ g (w.alloc (.deferred (some []))).heap.size) (H.set g (.obj (some q) (zhd q none))) ((w.alloc (.deferred (some []))).alloc (.loop q)) (.yld g ts cs) (.func (.yield (w.heap.size+1)) #[] #[]):=by
  have:=VR.yld (G:=G.atφ g (w.alloc (.deferred (some []))).heap.size) (H:=H.set g (.obj (some q) (zhd q none))) (w:=(w.alloc (.deferred (some []))).alloc (.loop q)) g ts cs q (zhd q none) (zaa.set_same _ _ _)
   (fun j t c hj1 hj2=>by
    obtain ⟨c1,c2⟩:=hR.caught j t c hj1 hj2
    exact ((hv t c1).le c2).evo hEa.evo)
  have hφ:(G.atφ g (w.alloc (.deferred (some []))).heap.size).φ g=w.heap.size+1:=by simp [Gh.atφ]
  rwa [hφ] at this
 have hall:=zrm first cap v1 v2 h1 h2 (fun i c x hc hx=>(h3 i c x hc hx).evo hEa.evo) (fun i c x hc hx=>(h4 i c x hc hx).evo hEa.evo)
  (as:=[.yld g ts cs]) (vs:=#[.func (.yield (w.heap.size+1)) #[] #[]]) ⟨rfl,fun i c x hc hx=>by
   cases i with
   | zero=>simp at hc hx;subst hc hx;exact hyv
   | succ i=>simp at hc⟩
 refine ⟨w.heap.size+1,_,_,{ target:=.fn (.func k) v2,args:=v1++#[.func (.yield (w.heap.size+1)) #[] #[]] },(w.alloc (.deferred (some []))).alloc (.loop q),k,v1++#[.func (.yield (w.heap.size+1)) #[] #[]]++v2,(w.alloc (.deferred (some []))).alloc (.loop q),run_enterLoop_outer fn a.tmps ps asg body,?_,fun _ _=>trivial,?_,fun h=>by simp [FR,Fence.wide] at h,?_⟩
 ·have hmap:(#[Operand.const (.func (.yield (w.heap.size+1)) #[] #[])]:Array Operand).map a.eval=#[.func (.yield (w.heap.size+1)) #[] #[]]:=by
   rw [List.map_toArray]
   rfl
  simp only [resolve,hgv,Deferred.ofValue,Sem.run_pure,rangeCall,hmap]
  rfl
 ·simp [invoke,callFunc,hfun,hname,hbody]
 refine zph ?_
 refine (hcalls _ _ _ hp2 hall).mono ?_
 rintro e w3 ⟨v,G3,rfl,hp3,⟨hf3,_,_⟩,hE3,_⟩
 have hH3g:((H.set g (.obj (some q) (zhd q none))).puts (A'++(g,.obj (some q) (zhd q (pe sF)))::Lo sF)) g=some (.obj (some q) (zhd q (pe sF))):=zgU _ (hndA sF _) (g,_) (by simp)
 have hφ3:G3.φ g=w.heap.size+1:=by
  rw [(hE3.evo.obj g _ _ (zaa.set_same _ _ _)).1]
  simp [Gh.atφ]
 obtain ⟨o3,ho3,⟨hrec3,_⟩,_⟩:=hp3.objs g _ _ hH3g
 subst hrec3
 rw [hφ3] at ho3
 have hstate:(if (pe sF).isNone then LoopState.ready else LoopState.done)≠.busy:=by split<;>simp
 refine ⟨_,_,run_endLoop ho3 hstate,?_⟩
 obtain ⟨hp4,hE4⟩:=zhe hp3 hH3g (p':=fun _=>True) (o:=.loop { q with state:=.exhausted,pending:=pe sF }) ⟨trivial,_,_,rfl⟩ (fun _ _ _ e=>by cases e)
 rw [hφ3] at hp4 hE4
 have hD0:¬Im (G.atφ g (w.alloc (.deferred (some []))).heap.size) (H.set g (.obj (some q) (zhd q none))) w.heap.size:=fun hi=>by
  rcases hi with ⟨i,ds,hi,hφ⟩ | ⟨i,d,n,hi,hb⟩ | ⟨i,k',p',hi,hφ⟩
  ·rcases zaa.set_cases hi with ⟨_,h⟩ | ⟨hne,h⟩
   ·cases h
   ·have:=hp.lt (.inl ⟨i,ds,h,rfl⟩)
    simp [Gh.atφ,hne] at hφ
    omega
  ·rcases zaa.set_cases hi with ⟨_,h⟩ | ⟨hne,h⟩
   ·cases h
   ·have:=hp.lt (.inr (.inl ⟨i,d,n,h,hb⟩))
    omega
  ·rcases zaa.set_cases hi with ⟨rfl,h⟩ | ⟨hne,h⟩
   ·simp [Gh.atφ] at hφ
   ·have:=hp.lt (.inr (.inr ⟨i,k',p',h,rfl⟩))
    simp [Gh.atφ,hne] at hφ
    omega
 have hM2:Marks (G.atφ g (w.alloc (.deferred (some []))).heap.size) (H.set g (.obj (some q) (zhd q none))) w0 ((w.alloc (.deferred (some []))).alloc (.loop q)) ([{ target:=.collected w.heap.size,args:=#[] }]++a.defers):=by
  obtain ⟨Ds,e1,e2,e3⟩:=hM.ext hEa
  refine ⟨w.heap.size::Ds,by rw [e1];rfl,List.nodup_cons.2 ⟨fun hm=>?_,e2⟩,fun D hD=>?_⟩
  ·obtain ⟨Ds',e1',_,e3'⟩:=hM
   have:Ds=Ds':=by
    rw [e1] at e1'
    have:=congrArg (List.map fun d:Deferred=>match d.target with | .collected D=>D | _=>0) e1'
    simpa [Function.comp_def] using this
   subst this
   have:=(Array.getElem?_eq_some_iff.1 (e3' _ hm).2.1).1
   omega
  ·rcases List.mem_cons.1 hD with rfl | hD
   ·refine ⟨hE.size,?_,hD0⟩
    rw [heap_alloc_old _ _ (by simp)]
    exact World.alloc_heap_new w _
   ·exact e3 D hD
 have hEb:=(hE.trans hEa).trans (hE3.trans hE4)
 have hS4:Sim G0 H0 w0 N fr (((H.set g (.obj (some q) (zhd q none))).puts (A'++(g,.obj (some q) (zhd q (pe sF)))::Lo sF)).set g (.obj (some q) fun _=>True)) { a with defers:=[{ target:=.collected w.heap.size,args:=#[] }]++a.defers }
   (w3.putObj (w.heap.size+1) (.loop { q with state:=.exhausted,pending:=pe sF })) :=
  ⟨G3,hp4,hEb,hM2.ext (hE3.trans hE4),hN,fun t ht=>((hv t ht).evo hEa.evo).evo (hE3.trans hE4).evo⟩
 have hf4:za2 (((H.set g (.obj (some q) (zhd q none))).puts (A'++(g,.obj (some q) (zhd q (pe sF)))::Lo sF)).set g (.obj (some q) fun _=>True)) (g+1):=fun i hi=>by
  rw [zaa.set_ne _ _ (by omega)]
  exact hf3 i hi
 have hq:=hc2 _ hf4 (fun p hm=>by
   have hne:p.1≠g:=fun e=>by
    rcases List.mem_append.1 hm with hm | hm
    ·exact hgA (e▸hidsA p hm)
    ·exact hgids sF (e▸hidsM sF p hm)
   rw [zaa.set_ne _ _ hne]
   exact zgU _ (hndA sF _) p (by rcases List.mem_append.1 hm with hm | hm<;>simp [hm])) (fun i hi=>by
   have h1:i∉ids (A'++(g,Blk.obj (some q) (zhd q (pe sF)))::Lo sF):=by
    rw [show ids (A'++(g,Blk.obj (some q) (zhd q (pe sF)))::Lo sF)=ids A'++g::ids (Lo sF) by simp [ids],←hidA,(hR.kinds sF s0).ids]
    simp only [List.mem_append,List.mem_cons,not_or]
    have h2:i∉ids A++ids (Lo s0):=by have:=hi.2;simpa only [ids,List.map_append] using this
    simp only [List.mem_append,not_or] at h2
    exact ⟨h2.1,by omega,h2.2⟩
   rw [zaa.set_ne _ _ (by omega),zei _ h1,zaa.set_ne _ _ (by omega)])
 cases hps:pe sF with
 | none =>
  rw [hps] at hq hS4 hf4
  exact hC _ _ _ _ _ _ hq hS4 hf4
 | some c =>
  rw [hps] at hq hS4 hf4
  obtain ⟨e,hje,hq⟩:=hq
  have hcq:=hC _ _ _ _ _ _ hq hS4 hf4
  cases c<;>simp only [zlF] at hje<;>first | cases hje;done | (injection hje with hje;subst hje;first | exact wpIn_ret hcq | exact wpIn_exit hcq)
theorem zeT {P:Program} {b:Frame} {a:Act} {k:List Item} {cs:List Frame} {w:World} {c:Code}:step P (lone (b.atR a (.code (.scope c)::k)) cs w)=.next (lone (b.atR a (.code c::.inScope c::k)) cs w) :=
 step_lone_go (by simp [stepG,stepG.exec,Frame.atR])
theorem zmo {P:Program} {b:Frame} {a:Act} {k:List Item} {cs:List Frame} {w:World} {c:Code}:step P (lone (b.atR a (.inScope c::k)) cs w)=.next (lone (b.atR a k) cs w) :=
 step_lone_go (by simp [stepG,stepG.exec,Frame.atR])
theorem zqq {F:Fence} {n:Nat} {P:Program} {Q:Exit->Act->World->Prop} {a:Act} {w:World} {c:Code} (h:c.wpIn F n P (Exit.noGoto Q) a w):(Code.scope c).wpIn F n P Q a w:=by
 intro b k cs hro hb hr
 have h0:(lone (b.atR a (.code (.scope c)::k)) cs w).fenced P F:=fenced_calm hb hr rfl
 obtain ⟨e,a₁,w₁,hq,harr⟩:=h b (.inScope c::k) cs hro hb hr
 cases e with
 | normal=>exact ⟨.normal,a₁,w₁,hq,.head h0 zeT (StepsIn.trans harr (.one (fenced_calm hb hr rfl) zmo))⟩
 | exit id =>
  have hx:exitTo id (.inScope c::k)=exitTo id k:=by simp [exitTo]
  exact ⟨.exit id,a₁,w₁,hq,fun k' hk=>.head h0 zeT (harr.1 k' (by rw [hx];exact hk)),
   fun hr' hk=>let ⟨k₁,h1,h2⟩:=harr.2 hr' (by rw [hx];exact hk);⟨k₁,h1,.head h0 zeT h2⟩⟩
 | goto l=>exact hq.elim
 | ret=>exact ⟨_,a₁,w₁,hq,.of_steps (.one h0 zeT) harr⟩
 | panic ch=>exact ⟨_,a₁,w₁,hq,.of_steps (.one h0 zeT) harr⟩
 | outgrown=>exact ⟨_,a₁,w₁,hq,.of_steps (.one h0 zeT) harr⟩
theorem zgy (hm:P.follows .mixedOrders=true) (c:Code):∀(ro:Option Nat) (nn:Nat) (G0:Gh) (H0:zaa) (w0:World) (Q:Exit->Fr->zaa->Nat->Prop) (fr:Fr) (H:zaa) (g:Nat) (a:Act) (w:World) (C:Exit->Act->World->Prop),
  (ro=none\/zjB c=true)->wpA P N c Q fr H g->Sim G0 H0 w0 N fr H a w->za2 H g->(∀e fr' H' g' a' w',Q e fr' H' g'->Sim G0 H0 w0 N fr' H' a' w'->za2 H' g'->C e a' w')->c.wpIn (FR ro) nn P C a w:=by
 induction c with
 | skip=>exact fun ro nn G0 H0 w0 Q fr H g a w C hro h S hf hC=>wpIn_skip (hC _ _ _ _ _ _ h S hf)
 | label l=>exact fun ro nn G0 H0 w0 Q fr H g a w C hro h S hf hC=>wpIn_label (hC _ _ _ _ _ _ h S hf)
 | exit id=>exact fun ro nn G0 H0 w0 Q fr H g a w C hro h S hf hC=>wpIn_exit (hC _ _ _ _ _ _ h S hf)
 | ret=>exact fun ro nn G0 H0 w0 Q fr H g a w C hro h S hf hC=>wpIn_ret (hC _ _ _ _ _ _ h S hf)
 | goto l=>exact fun ro nn G0 H0 w0 Q fr H g a w C hro h S hf hC=>h.elim
 | refuse l=>exact fun ro nn G0 H0 w0 Q fr H g a w C hro h S hf hC=>h.elim
 | scope b ih =>
  intro ro nn G0 H0 w0 Q fr H g a w C hro h S hf hC
  refine zqq (ih ro nn G0 H0 w0 _ fr H g a w _ (hro.imp (fun h=>h) fun h=>by simpa [zjB] using h) h S hf fun e fr' H' g' a' w' hq S' hf'=>?_)
  cases e with
  | goto l=>exact hq.elim
  | exit id=>exact hC _ _ _ _ _ _ hq S' hf'
  | normal=>exact hC _ _ _ _ _ _ hq S' hf'
  | ret=>exact hC _ _ _ _ _ _ hq S' hf'
  | panic ch=>exact hC _ _ _ _ _ _ hq S' hf'
  | outgrown=>exact hC _ _ _ _ _ _ hq S' hf'
 | rangeFunc gop ps asg body ihA ihB=>exact zoz ihA ihB
 | region id ops draw =>
  intro ro nn G0 H0 w0 Q fr H g a w C hro h S hf hC
  simp only [wpA] at h
  have hf':za2 H (g+ops.size):=fun i hi=>hf i (by omega)
  cases draw with
  | false =>
   simp only [Bool.false_eq_true,if_false] at h
   refine wpIn_region ?_
   rw [List.range_eq_range']
   exact zlM (fun fr' H' g' a' w' hk S' hf'=>hC _ _ _ _ _ _ hk S' hf') ops.size 0 fr H _ a w (by omega) h S hf' (Nat.le_refl _) fun j _ _=>hf _ (by omega)
  | true =>
   simp only [if_true] at h
   refine wpIn_region_any hm ?_
   have hu:zb6 ops (Array.replicate ops.size false)=List.range' 0 ops.size:=by
    rw [←List.range_eq_range']
    unfold zb6
    refine List.filter_eq_self.2 fun i hi=>?_
    have:=List.mem_range.1 hi
    simp [this]
   refine zqp (K:=fun fr H g=>((∀q,q∈zth ops->zkf (fr q.1) (fr q.2))/\∀q,q∈zlr ops->zhZ P q.2.2 (fr q.1) (fr q.2.1))/\Q .normal fr H g) h.1 (fun fr H g hk=>hk.1) (fun fr' H' g' a' w' hk S' hf'=>hC _ _ _ _ _ _ hk.2 S' hf') ops.size _ fr H (g+ops.size) a _ (by simp) (fun i o hi=>?_) ?_ S.drew hf' (Nat.le_refl _) (fun i hi=>hf _ (by omega)) (by rw [hu];simp)
   ·exfalso
    rw [Array.getD_eq_getD_getElem?,Array.getElem?_replicate] at hi
    split at hi<;>cases hi
   ·rw [hu]
    exact zjE ops.size 0 (by omega) _ _ _ h.2
 | seq x y ihx ihy =>
  intro ro nn G0 H0 w0 Q fr H g a w C hro h S hf hC
  have hrox:ro=none\/zjB x=true:=hro.imp (fun h=>h) fun h=>by simp only [zjB,Bool.and_eq_true] at h;exact h.1
  have hroy:ro=none\/zjB y=true:=hro.imp (fun h=>h) fun h=>by simp only [zjB,Bool.and_eq_true] at h;exact h.2
  refine wpIn_seq (ihx ro nn G0 H0 w0 _ fr H g a w _ hrox h S hf fun e fr' H' g' a' w' hq S' hf'=>?_)
  cases e with
  | normal =>
   obtain ⟨fr0,H1,g0,hd,hq⟩:=hq
   obtain ⟨S1,hf1⟩:=S'.down hd hf'
   exact ihy ro nn G0 H0 w0 Q fr0 H1 g0 a' w' C hroy hq S1 hf1 hC
  | exit id=>exact hC _ _ _ _ _ _ hq S' hf'
  | goto l=>exact hC _ _ _ _ _ _ hq S' hf'
  | ret=>exact hC _ _ _ _ _ _ hq S' hf'
  | panic ch=>exact hC _ _ _ _ _ _ hq S' hf'
  | outgrown=>exact hC _ _ _ _ _ _ hq S' hf'
 | cond c x y ihx ihy =>
  intro ro nn G0 H0 w0 Q fr H g a w C hro h S hf hC
  have hrox:ro=none\/zjB x=true:=hro.imp (fun h=>h) fun h=>by simp only [zjB,Bool.and_eq_true] at h;exact h.1
  have hroy:ro=none\/zjB y=true:=hro.imp (fun h=>h) fun h=>by simp only [zjB,Bool.and_eq_true] at h;exact h.2
  simp only [wpA] at h
  split at h
  ·rename_i t hc
   have hcv:a.eval c=.bool t:=by
    obtain ⟨G,_,_,_,_,h5⟩:=S
    have:=zot h5 c
    rw [hc] at this
    exact zmd this
   cases t with
   | true=>exact wpIn_cond_true hcv (ihx ro nn G0 H0 w0 Q fr H g a w C hrox (by simpa using h) S hf hC)
   | false=>exact wpIn_cond_false hcv (ihy ro nn G0 H0 w0 Q fr H g a w C hroy (by simpa using h) S hf hC)
  ·exact h.elim
 | block id c ih =>
  intro ro nn G0 H0 w0 Q fr H g a w C hro h S hf hC
  refine wpIn_block (ih ro nn G0 H0 w0 _ fr H g a w _ (hro.imp (fun h=>h) fun h=>by simpa [zjB] using h) h S hf fun e fr' H' g' a' w' hq S' hf'=>?_)
  cases e with
  | exit id' =>
   simp only [Exit.inBlockA] at hq
   simp only [Exit.inBlock]
   split
   ·rename_i he
    rw [if_pos he] at hq
    exact hC _ _ _ _ _ _ hq S' hf'
   ·rename_i he
    rw [if_neg he] at hq
    exact hC _ _ _ _ _ _ hq S' hf'
  | normal=>exact hC _ _ _ _ _ _ hq S' hf'
  | goto l=>exact hC _ _ _ _ _ _ hq S' hf'
  | ret=>exact hC _ _ _ _ _ _ hq S' hf'
  | panic ch=>exact hC _ _ _ _ _ _ hq S' hf'
  | outgrown=>exact hC _ _ _ _ _ _ hq S' hf'
 | loop c ih =>
  intro ro nn G0 H0 w0 Q fr H g a w C hro h S hf hC
  obtain ⟨I,⟨n,fr0,hle,hI⟩,hround⟩:=h
  refine zry (fun n a w=>∃fr H g,I n fr H g/\Sim G0 H0 w0 N fr H a w/\za2 H g) ⟨n,fr0,H,g,hI,S.le hle,hf⟩ ?_
  rintro n a w ⟨fr,H,g,hI,S,hf⟩
  refine ih ro nn G0 H0 w0 _ fr H g a w _ (hro.imp (fun h=>h) fun h=>by simpa [zjB] using h) (hround n fr H g hI hf) S hf fun e fr' H' g' a' w' hq S' hf'=>?_
  cases e with
  | normal =>
   obtain ⟨m,fr0,hm,hle,hI'⟩:=hq
   exact ⟨m,hm,fr0,H',g',hI',S'.le hle,hf'⟩
  | exit id=>exact hC _ _ _ _ _ _ hq S' hf'
  | goto l=>exact hC _ _ _ _ _ _ hq S' hf'
  | ret=>exact hC _ _ _ _ _ _ hq S' hf'
  | panic ch=>exact hC _ _ _ _ _ _ hq S' hf'
  | outgrown=>exact hC _ _ _ _ _ _ hq S' hf'
def zxn (tmps:Array Value):ResultVar->Sem Value
 | .tmp t=>pure (tmps.getD t undef)
 | .cell b t=>do loadVar t (←asAddr (tmps.getD b undef))
theorem zqr (fn:Func) (tmps:Array Value):results fn tmps=(do
  let vs ←fn.results.mapM (zxn tmps)
  pure (if h:vs.size=1 then vs[0] else .tuple vs)):=by
 unfold results
 congr 1
theorem zrA {G:Gh} {H:zaa} {w:World} {a:Act} {fr:Fr} (hp:Hp G H w) (hv:∀t,t<N->VR G H w (fr t) (a.tmps.getD t undef)) {rv:ResultVar} {x:AV} (h:zf7 P N fr H rv=some x) :
  ∃v,(zxn a.tmps rv).run P w=.ok v w/\VR G H w x v:=by
 cases rv with
 | tmp t =>
  simp only [zf7] at h
  injection h with h
  subst h
  exact ⟨_,rfl,zot hv (.tmp t)⟩
 | cell b t =>
  simp only [zf7] at h
  have hb:=zot hv (.tmp b)
  split at h
  ·rename_i i off hx
   rw [hx] at hb
   split at h
   ·rename_i cs hcs
    generalize hva:a.eval (.tmp b)=vb at hb
    cases hb with
    | ptr _ _ hcs' =>
     obtain ⟨v,h1,h2⟩:=zkj (P:=P) (o:=0) h (hp.range hcs)
     rw [Nat.zero_add] at h1
     refine ⟨v,?_,h2⟩
     change a.tmps.getD b undef=_ at hva
     simp only [zxn,hva,asAddr,Sem.run_bind,Sem.run_pure,Result.andThen_ok,h1]
   ·cases h
  ·cases h
theorem zeU {G:Gh} {H:zaa} {w:World} {a:Act} {fr:Fr} {fn:Func} (hp:Hp G H w) (hv:∀t,t<N->VR G H w (fr t) (a.tmps.getD t undef)) {x:AV} (h:zgu P N fr H fn.results.toList=some x) :
  ∃v,(results fn a.tmps).run P w=.ok v w/\VR G H w x v:=by
 have key:∀(rs:List ResultVar) (l:List AV),rs.mapM (zf7 P N fr H)=some l->∃vs:List Value,(rs.mapM (zxn a.tmps)).run P w=.ok vs w /\
   vs.length=l.length/\∀(i:Nat) (c:AV) (y:Value),l[i]?=some c->vs[i]?=some y->VR G H w c y:=by
  intro rs
  induction rs with
  | nil =>
   intro l hl
   simp at hl
   subst hl
   exact ⟨[],by simp,rfl,fun i c y hc=>by simp at hc⟩
  | cons rv rs ih =>
   intro l hl
   rw [List.mapM_cons] at hl
   cases h1:zf7 P N fr H rv with
   | none=>simp [h1] at hl
   | some c0 =>
    cases h2:rs.mapM (zf7 P N fr H) with
    | none=>simp [h1,h2] at hl
    | some l' =>
     simp only [h1,h2,Option.bind_eq_bind,Option.bind_some,Option.pure_def] at hl
     injection hl with hl
     subst hl
     obtain ⟨v,r1,r2⟩:=zrA hp hv h1
     obtain ⟨vs,s1,s2,s3⟩:=ih l' h2
     refine ⟨v::vs,?_,by simp [s2],fun i c y hc hy=>?_⟩
     ·rw [List.mapM_cons]
      simp only [Sem.run_bind,r1,Result.andThen_ok,s1,Sem.run_pure]
     ·cases i with
      | zero=>simp at hc hy;subst hc hy;exact r2
      | succ i=>exact s3 i c y (by simpa using hc) (by simpa using hy)
 unfold zgu at h
 cases hm:fn.results.toList.mapM (zf7 P N fr H) with
 | none=>simp [hm] at h
 | some l =>
  obtain ⟨vs,s1,s2,s3⟩:=key _ l hm
  have hrun:(results fn a.tmps).run P w=.ok (if h:vs.toArray.size=1 then vs.toArray[0] else .tuple vs.toArray) w:=by
   rw [zqr]
   simp only [Sem.run_bind,Array.mapM_eq_mapM_toList,Sem.run_map,s1,Result.andThen_ok,Sem.run_pure]
  rw [hm] at h
  refine ⟨_,hrun,?_⟩
  match l,s2,s3,h with
  | [c],s2,s3,h =>
   simp only at h
   injection h with h
   subst h
   obtain ⟨v,rfl⟩:∃v,vs=[v]:=by
    match vs,s2 with
    | [v],_=>exact ⟨v,rfl⟩
   exact s3 0 c v rfl rfl
  | [],s2,s3,h =>
   simp only at h
   injection h with h
   subst h
   have:vs=[]:=List.eq_nil_of_length_eq_zero s2
   subst this
   exact .tup [] #[] rfl fun i c y hc=>by simp at hc
  | c::d::l,s2,s3,h =>
   simp only at h
   injection h with h
   subst h
   rw [dif_neg (by simp [s2])]
   exact .tup _ _ (by simp [s2]) fun i e y hc hy=>s3 i e y hc (by simpa using hy)
theorem zhQ {as:List AV} {H:zaa} {G:Gh} {w:World} {vs:Array Value} {fn:Func} (hN:fn.ntmps=N) (hlen:as.length<=N) (hp:Hp G H w) (ha:VRs G H w as vs) :
  Sim G H w N (zfB as) H { tmps:=vs++Array.replicate (fn.ntmps-vs.size) undef,defers:=[] } w:=by
 have hs:=ha.1
 refine ⟨G,hp,.refl _ _ _,.nil _ _ _ _,by simp;omega,fun t ht=>?_⟩
 unfold zfB
 by_cases h1:t<as.length
 ·rw [List.getElem?_eq_getElem h1,Option.getD_some,Array.getD_eq_getD_getElem?]
  show VR G H w as[t] ((vs++_)[t]?.getD undef)
  rw [Array.getElem?_append_left (by omega),Array.getElem?_eq_getElem (by omega),Option.getD_some]
  exact ha.2 t _ _ (List.getElem?_eq_getElem h1) (Array.getElem?_eq_getElem (by omega))
 ·rw [List.getElem?_eq_none (by omega)]
  exact .any _
theorem zhn (hm : P.follows .mixedOrders = true) {f : FuncId} {fn : Func} {c : Code} (hf : P.funcs[f]? = some fn) (hb : fn.body = some c) (hname : fn.name ≠ "runtime.NumGoroutine") (hN : fn.ntmps = N)
  {as:List AV} (hlen:as.length<=N) {H H':zaa} {g g':Nat} {r:AV} (hfr:za2 H g) (hfr':za2 H' g') (hgg:g<=g') (hin:In H' r)
  (hc:∀i,H.cel i->H'.cel i) (hr:∀i e n,H i=some (.row e n)->∃n',H' i=some (.row e n')) (ho:∀i k p,H i=some (.obj k p)->∃p',H' i=some (.obj k p')) (hno:∀i,i<g->H i=none->H' i=none)
  (hcl:∀i cs,H' i=some (.cells cs)->H i=some (.cells cs)\/∀c,c∈cs->In H' c)
  {Q:Exit->Fr->zaa->Nat->Prop} (h:wpA P N c Q (zfB as) H g)
  (hQ:∀e fr H1 g1,Q e fr H1 g1->(e=.normal\/e=.ret)/\(∃x,zgu P N fr H1 fn.results.toList=some x/\Le r x)/\∀i x,H' i=some x->H1 i=some x):Sat P f as H g r H' g':=by
 refine ⟨⟨fn,c,hf,hb,hname⟩,fun G w vs hp ha=>?_⟩
 refine callsIn_wide.1 (callsIn_of_wp_marks (n:=0) (F:=Fence.wide) hf hb trivial (zgy hm c none 0 G H w _ _ _ _ _ _ _ (.inl rfl) h (zhQ hN hlen hp ha) hfr fun e fr H1 g1 a' w' hq S' _=>?_) rfl)
 obtain ⟨he,⟨x,hx,hle⟩,hsub⟩:=hQ _ _ _ _ hq
 obtain ⟨G1,hp1,hE,⟨Ds,hd1,hd2,hd3⟩,_,hv⟩:=S'
 have hfin:LeavesInM Fence.wide 0 P fn a'.tmps (fun e w'=>∃v G',e=.returned v/\Hp G' H' w'/\(za2 H' g'/\g<=g'/\∀i,i<g->H i=none->H' i=none)/\Ext G H w G' H' w'/\VR G' H' w' r v) a'.defers .returning w':=by
  rw [hd1]
  refine zdO Ds w' hp1 hE hd2 hd3 fun w2 hp2 hE2 hev=>?_
  obtain ⟨v,hrun,hvr⟩:=zeU (P:=P) (fn:=fn) hp2 (fun t ht=>(hv t ht).evo hev) hx
  obtain ⟨q1,q2⟩:=zfD hp hp2 hE2 hsub hc hr ho hcl
  exact ⟨v,hrun,v,G1,rfl,q1,⟨hfr',hgg,hno⟩,q2,(hvr.le hle).back hsub hin⟩
 rcases he with rfl | rfl
 ·exact hfin
 ·exact hfin
theorem zqs (hm : P.follows .mixedOrders = true) {f : FuncId} {fn : Func} {c : Code} (hf : P.funcs[f]? = some fn) (hb : fn.body = some c) (hname : fn.name ≠ "runtime.NumGoroutine") (hN : fn.ntmps = N)
  {as:List AV} (hlen:as.length<=N) {H:zaa} {g:Nat} {T:AV->zaa->Nat->Prop} (hfr:za2 H g) (hex:∃r H' g',T r H' g')
  {Q:Exit->Fr->zaa->Nat->Prop} (h:wpA P N c Q (zfB as) H g)
  (hQ:∀e fr H1 g1,Q e fr H1 g1->(e=.normal\/e=.ret)/\∃r H' g',T r H' g'/\za2 H' g'/\g<=g'/\In H' r/\(∀i,H.cel i->H'.cel i)/\(∀i e n,H i=some (.row e n)->∃n',H' i=some (.row e n'))/\(∀i k p,H i=some (.obj k p)->∃p',H' i=some (.obj k p'))/\(∀i,i<g->H i=none->H' i=none) /\
   (∀i cs,H' i=some (.cells cs)->H i=some (.cells cs)\/∀c,c∈cs->In H' c)/\(∃x,zgu P N fr H1 fn.results.toList=some x/\Le r x)/\∀i x,H' i=some x->H1 i=some x):zq9 P f as H g T:=by
 refine ⟨⟨fn,c,hf,hb,hname⟩,hex,fun G w vs hp ha=>?_⟩
 refine callsIn_wide.1 (callsIn_of_wp_marks (n:=0) (F:=Fence.wide) hf hb trivial (zgy hm c none 0 G H w _ _ _ _ _ _ _ (.inl rfl) h (zhQ hN hlen hp ha) hfr fun e fr H1 g1 a' w' hq S' _=>?_) rfl)
 obtain ⟨he,r,H',g',hT,hfr',hgg,hin,hc,hr,ho,hno,hcl,⟨x,hx,hle⟩,hsub⟩:=hQ _ _ _ _ hq
 obtain ⟨G1,hp1,hE,⟨Ds,hd1,hd2,hd3⟩,_,hv⟩:=S'
 have hfin:LeavesInM Fence.wide 0 P fn a'.tmps (fun e w'=>∃v G' r H' g',T r H' g'/\e=.returned v/\Hp G' H' w'/\(za2 H' g'/\g<=g'/\∀i,i<g->H i=none->H' i=none)/\Ext G H w G' H' w'/\VR G' H' w' r v) a'.defers .returning w':=by
  rw [hd1]
  refine zdO Ds w' hp1 hE hd2 hd3 fun w2 hp2 hE2 hev=>?_
  obtain ⟨v,hrun,hvr⟩:=zeU (P:=P) (fn:=fn) hp2 (fun t ht=>(hv t ht).evo hev) hx
  obtain ⟨q1,q2⟩:=zfD hp hp2 hE2 hsub hc hr ho hcl
  exact ⟨v,hrun,v,G1,r,H',g',hT,rfl,q1,⟨hfr',hgg,hno⟩,q2,(hvr.le hle).back hsub hin⟩
 rcases he with rfl | rfl
 ·exact hfin
 ·exact hfin
theorem zaz (hm : P.follows .mixedOrders = true) {f : FuncId} {fn : Func} {c : Code} (hf : P.funcs[f]? = some fn) (hb : fn.body = some c) (hname : fn.name ≠ "runtime.NumGoroutine") (hN : fn.ntmps = N)
  {as:List AV} (hlen:as.length<=N) {r:AV} (hp:Pure r)
  (h:∀H g,za2 H g->wpA P N c (fun e fr H1 _=>(e=.normal\/e=.ret)/\(∃x,zgu P N fr H1 fn.results.toList=some x/\Le r x)/\∀i,i<g->H1 i=H i) (zfB as) H g):zaR P f as r:=fun H g hfr =>
 zhn hm hf hb hname hN hlen hfr hfr (Nat.le_refl _) hp.inH (fun i h=>h) (fun i e n h=>⟨n,h⟩) (fun i k p h=>⟨p,h⟩) (fun _ _ h=>h) (fun i cs h=>.inl h)
  (h H g hfr) fun e fr H1 g1 hq=>⟨hq.1,hq.2.1,fun i x hi=>by
   have hlt:i<g:=by
    rcases Nat.lt_or_ge i g with h | h
    ·exact h
    ·rw [hfr i h] at hi;cases hi
   rw [hq.2.2 i hlt]
   exact hi⟩
end
end Go.AM
