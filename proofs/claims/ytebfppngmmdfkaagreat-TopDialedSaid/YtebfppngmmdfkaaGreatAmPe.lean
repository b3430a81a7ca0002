/-
  The abstract machine: a late slice becomes a block that can be written to.
  Conditions: none; it speaks of any program.
-/
import Derived.Test.YtebfppngmmdfkaaGreatAmPd
set_option linter.all false
namespace Go.AM
open Go Go.RowKit
inductive Erl:AV->Prop
 | any:Erl .any
 | v (x:Value):Erl (.v x)
 | agg (cs:List AV) (h:∀c,c∈cs->Erl c):Erl (.agg cs)
 | tup (cs:List AV) (h:∀c,c∈cs->Erl c):Erl (.tup cs)
 | ptr (i off:Nat):Erl (.ptr i off)
 | ms (i off k n c:Nat):Erl (.ms i off k n c)
 | od (k:Nat) (es:List (List AV)) (h:∀e,e∈es->∀c,c∈e->Erl c):Erl (.sl .od k es)
 | fn (f:Fn) (first cap:List AV) (h1:∀c,c∈first->Erl c) (h2:∀c,c∈cap->Erl c):Erl (.fn f first cap)
theorem VR.thaw {G:Gh} {H:zab} {w:World} {a:AV} {x:Value} {new b m:Nat} {cs:List AV} (hn:H new=none) (hb:G.lo<=b) (h:VR G H w a x) (he:Erl a):VR (G.atC new b m) (H.set new (.cells cs)) w a x:=by
 have hφ:∀i,i≠new->(G.atC new b m).φ i=G.φ i:=fun i h=>by simp [Gh.atC,Gh.atφ,h]
 have hφn:(G.atC new b m).φ new=b:=by simp [Gh.atC,Gh.atφ]
 have hz:∀i,i≠new->(G.atC new b m).sz i=G.sz i:=fun i h=>by simp [Gh.atC,h]
 have hne:∀i,H.cel i->i≠new:=fun i hi e=>by subst e;rcases hi with ⟨cs,h⟩ | h<;>(rw [hn] at h;cases h)
 induction h with
 | any x=>exact .any x
 | v x=>exact .v x
 | agg cs vs hl h1 _ ih =>
  cases he with
  | agg _ he=>exact .agg cs vs hl h1 fun i c x hc hx=>ih i c x hc hx (he c (List.mem_of_getElem? hc))
 | tup cs vs hl _ ih =>
  cases he with
  | tup _ he=>exact .tup cs vs hl fun i c x hc hx=>ih i c x hc hx (he c (List.mem_of_getElem? hc))
 | ptr i off h =>
  rw [←hφ i (hne i h)]
  exact .ptr i off (zab.cel_new h hn)
 | ms i off k n c a cap h ha hn' hc hz' =>
  exact .ms i off k n c a cap (zab.cel_new h hn) (fun h0=>by rw [hφ i (hne i h)];exact ha h0) hn' hc (fun h0=>by rw [hz i (hne i h)];exact hz' h0)
 | sl t k es a cap b' o f hcap hs ha hc _ ht ih =>
  cases he with
  | od _ _ he =>
   refine .sl .od k es a cap b' o f hcap hs (fun hne'=>?_) hc (fun i j e c hi hj=>ih i j e c hi hj (he e (List.mem_of_getElem? hi) c (List.mem_of_getElem? hj))) ht
   obtain ⟨hk,ha1,hf⟩:=ha hne'
   have hlt:b'<G.lo:=ht (List.length_pos_iff.2 hne') b' o none es.length cap (by rw [ha1])
   refine ⟨hk,ha1,fun i ds hi=>?_,fun i d m' hi e=>?_⟩
   ·rcases zab.set_cases hi with ⟨rfl,_⟩ | ⟨h1,h2⟩
    ·rw [hφn];omega
    ·rw [hφ i h1];exact hf.1 i ds h2
   ·rcases zab.set_cases hi with ⟨_,h2⟩ | ⟨h1,h2⟩
    ·cases h2
    ·rw [hz i h1];exact hf.2 i d m' h2 e
 | ep cs b' o f ha hc _ ih=>cases he
 | yld i ts cs q p h _ ih=>cases he
 | mp i k p h=>cases he
 | it j i a k k' p p' hj hi ha=>cases he
 | fn f first cap v1 v2 h1 h2 _ _ ihf ihc =>
  cases he with
  | fn _ _ _ he1 he2=>exact .fn f first cap v1 v2 h1 h2 (fun i c x hc hx=>ihf i c x hc hx (he1 c (List.mem_of_getElem? hc))) (fun i c x hc hx=>ihc i c x hc hx (he2 c (List.mem_of_getElem? hc)))
theorem ziS (zs:List Int):(zaY zs).flatten=zs.map fun z=>AV.v (.int .i64 z):=by
 unfold zaY
 induction zs with
 | nil=>rfl
 | cons z zs ih=>simp only [List.map_cons,List.flatten_cons,ih];rfl
theorem Sim.thaw {N:Nat} {G0:Gh} {w0:World} {fr fr':Fr} {H:zab} {a:Act} {w:World} {zs:List Int} {t new:Nat} (S:Sim G0 E0 w0 N fr H a w) (hlo:G0.lo=w0.heap.size) (ht:t<N) (hv:fr t=.sl .fr 1 (zaY zs)) (hz:zs≠[]) (hn:H new=none)
  (hH:∀i cs,H i=some (.cells cs)->∀c,c∈cs->Erl c) (hfr:∀t',t'<N->t'≠t->fr' t'=.any\/(fr' t'=fr t'/\Erl (fr t'))) (hft:fr' t=.ms new 0 1 zs.length zs.length):Sim G0 E0 w0 N fr' (H.set new (.cells (zaY zs).flatten)) a w:=by
 obtain ⟨G,hp,hE,hM,hs,hvs⟩:=S
 have hl:G.lo=w0.heap.size:=hE.evo.lo.trans hlo
 have h1:=hvs t ht
 rw [hv] at h1
 have hlen:(zaY zs).length=zs.length:=by simp [zaY]
 obtain ⟨aa,cap,xs,hx,hcap,hrow,htag,hblk⟩:=h1.row
 obtain ⟨b',o,ha1,_,_,hcell⟩:=hblk (fun e=>hz (List.eq_nil_of_length_eq_zero (by rw [←hlen,e];rfl)))
 have hxs:=znp hrow
 subst ha1
 rcases htag with ⟨c,hc⟩ | ⟨b,n,c,vs,ty,hc,⟨h2,h3⟩,h4,h5,h6⟩
 ·cases hc
 injection hc with e1 e2 e3
 injection e1 with e1
 injection e1 with e1 e4
 subst e1 e2 e3 e4
 rw [Nat.mul_one] at h6
 have hnb:∀i cs,H i=some (.cells cs)->G.φ i≠b':=fun i cs hi=>(h3 0).1 i cs hi
 have hnr:∀i e m,H i=some (.row e m)->(G.σ i).ownBlock≠some b':=fun i e m hi e'=>by
  have:=(h3 (m*G.sz i+1)).2 i e m hi e'
  omega
 have hvs0:∀j,vs[j]?=some (.int .i64 (zs.getD j 0))\/zs.length<=j:=fun j=>by
  by_cases hj:j<zs.length
  ·left
   have:=hcell j (.int .i64 zs[j]) (by rw [hxs];simp [hj])
   rw [Addr.add_mid,Nat.zero_add] at this
   unfold World.cell? at this
   simp only [h4] at this
   simp only [Option.isSome_none,Bool.false_eq_true,if_false] at this
   rw [this]
   simp [List.getD_eq_getElem?_getD,hj]
  ·right;omega
 have hflat:=ziS zs
 have hφ:∀i,i≠new->(G.atC new b' vs.size).φ i=G.φ i:=fun i h=>by simp [Gh.atC,Gh.atφ,h]
 have hφn:(G.atC new b' vs.size).φ new=b':=by simp [Gh.atC,Gh.atφ]
 have hsz:∀i,i≠new->(G.atC new b' vs.size).sz i=G.sz i:=fun i h=>by simp [Gh.atC,h]
 have hszn:(G.atC new b' vs.size).sz new=vs.size:=by simp [Gh.atC]
 have hle:zs.length<=vs.size:=by omega
 have hcl:∀(j:Nat) (x:Value),j<zs.length->vs[j]?=some x->x=.int .i64 (zs.getD j 0):=fun j x hj hx=>by
  rcases hvs0 j with h | h
  ·rw [hx] at h;injection h
  ·omega
 have hHp:Hp (G.atC new b' vs.size) (H.set new (.cells (zaY zs).flatten)) w:=by
  refine ⟨fun i ds hi=>?_,fun i d n hi=>?_,fun i j ds es hi hj he=>?_,fun i j ds d n hi hj=>?_,fun i j d m d' n b hi hj h1 h2=>?_,fun i k p hi=>?_,fun i j k k' p q hi hj he=>?_,hp.lo⟩
  ·rcases zab.set_cases hi with ⟨rfl,h⟩ | ⟨hne,h⟩
   ·injection h with h
    subst h
    refine ⟨vs,ty,by rw [hφn];exact h4,⟨by rw [hflat,List.length_map];exact hle,hszn.symm⟩,fun j x hj hx=>?_,fun j c x hc hx=>?_⟩
    ·rw [hflat,List.length_map] at hj
     rw [hcl j x hj hx];rfl
    ·rw [hflat,List.getElem?_map] at hc
     obtain ⟨z,hz',rfl⟩:=Option.map_eq_some_iff.1 hc
     have hj:=(List.getElem?_eq_some_iff.1 hz').1
     rw [hcl j x hj hx,List.getD_eq_getElem?_getD,hz']
     exact .v _
   ·obtain ⟨us,tu,hg,hs',h1',hv'⟩:=hp.cells i ds h
    exact ⟨us,tu,by rw [hφ i hne];exact hg,⟨hs'.1,by rw [hsz i hne];exact hs'.2⟩,h1',fun j c x hc hx=>(hv' j c x hc hx).thaw hn h2 (hH i ds h c (List.mem_of_getElem? hc))⟩
  ·rcases zab.set_cases hi with ⟨_,h⟩ | ⟨hne,h⟩
   ·cases h
   ·rw [hsz i hne]
    exact hp.rows i d n h
  ·rcases zab.set_cases hi with ⟨rfl,_⟩ | ⟨hne,h⟩<;>rcases zab.set_cases hj with ⟨rfl,_⟩ | ⟨hne',h'⟩
   ·rfl
   ·rw [hφn,hφ j hne'] at he
    exact absurd he.symm (hnb j _ h')
   ·rw [hφn,hφ i hne] at he
    exact absurd he (hnb i _ h)
   ·rw [hφ i hne,hφ j hne'] at he
    exact hp.inj i j _ _ h h' he
  ·rcases zab.set_cases hj with ⟨_,h'⟩ | ⟨_,h'⟩
   ·cases h'
   ·rcases zab.set_cases hi with ⟨rfl,_⟩ | ⟨hne,h⟩
    ·rw [hφn]
     exact hnr j d n h'
    ·rw [hφ i hne]
     exact hp.sep i j ds d n h h'
  ·rcases zab.set_cases hi with ⟨_,h⟩ | ⟨_,h⟩
   ·cases h
   ·rcases zab.set_cases hj with ⟨_,h'⟩ | ⟨_,h'⟩
    ·cases h'
    ·exact hp.own i j d m d' n b h h' h1 h2
  ·rcases zab.set_cases hi with ⟨_,h⟩ | ⟨hne,h⟩
   ·cases h
   ·rw [hφ i hne]
    exact hp.objs i _ p h
  ·rcases zab.set_cases hi with ⟨_,h⟩ | ⟨hne,h⟩
   ·cases h
   ·rcases zab.set_cases hj with ⟨_,h'⟩ | ⟨hne',h'⟩
    ·cases h'
    ·rw [hφ i hne,hφ j hne'] at he
     exact hp.oinj i j _ _ p q h h' he
 have him:∀b,Im (G.atC new b' vs.size) (H.set new (.cells (zaY zs).flatten)) b->Im G H b\/b=b':=fun b h=>by
  rcases h with ⟨i,ds,hi,rfl⟩ | ⟨i,d,n,hi,h⟩ | ⟨i,k,p,hi,rfl⟩
  ·rcases zab.set_cases hi with ⟨rfl,_⟩ | ⟨hne,h⟩
   ·exact .inr hφn
   ·exact .inl (.inl ⟨i,ds,h,(hφ i hne).symm⟩)
  ·rcases zab.set_cases hi with ⟨_,h'⟩ | ⟨_,h'⟩
   ·cases h'
   ·exact .inl (.inr (.inl ⟨i,d,n,h',h⟩))
  ·rcases zab.set_cases hi with ⟨_,h'⟩ | ⟨hne,h'⟩
   ·cases h'
   ·exact .inl (.inr (.inr ⟨i,_,p,h',(hφ i hne).symm⟩))
 have hE':Ext G0 E0 w0 (G.atC new b' vs.size) (H.set new (.cells (zaY zs).flatten)) w:=by
  refine ⟨⟨fun i h=>?_,fun i d n h=>(by cases h),fun i k p h=>(by cases h),fun b n hf=>⟨(hE.evo.keep b n hf).1,fun hb=>⟨fun i ds hi=>?_,fun i d m hi e=>?_⟩⟩,hE.evo.lo,hE.evo.whole⟩,hE.os,hE.tape,hE.output,hE.size,hE.block,fun b hb=>?_⟩
  ·rcases h with ⟨_,h⟩ | h<;>cases h
  ·rcases zab.set_cases hi with ⟨rfl,_⟩ | ⟨hne,h⟩
   ·rw [hφn];omega
   ·rw [hφ i hne]
    exact ((hE.evo.keep b n hf).2 hb).1 i ds h
  ·rcases zab.set_cases hi with ⟨_,h⟩ | ⟨hne,h⟩
   ·cases h
   ·rw [hsz i hne]
    exact ((hE.evo.keep b n hf).2 hb).2 i d m h e
  ·rcases him b hb with h | rfl
   ·exact hE.im b h
   ·exact .inr (by omega)
 refine ⟨G.atC new b' vs.size,hHp,hE',?_,hs,fun t' ht'=>?_⟩
 ·obtain ⟨Ds,d1,d2,d3⟩:=hM
  refine ⟨Ds,d1,d2,fun D hD=>⟨(d3 D hD).1,(d3 D hD).2.1,fun hi=>?_⟩⟩
  rcases him D hi with h | rfl
  ·exact (d3 D hD).2.2 h
  ·have:=(d3 D hD).2.1
   rw [h4] at this
   cases this
 ·by_cases e:t'=t
  ·subst e
   rw [hft,hx,hlen]
   have:=VR.ms (G:=G.atC new b' vs.size) (w:=w) new 0 1 zs.length zs.length (some ⟨b',0,none⟩) cap (.inl ⟨_,zab.set_same H new (.cells (zaY zs).flatten)⟩) (fun _=>by rw [hφn]) (Nat.le_refl _) (by omega) (fun _=>by rw [hszn];omega)
   exact this
  ·rcases hfr t' ht' e with h | ⟨h,he⟩
   ·rw [h];exact .any _
   ·rw [h]
    exact (hvs t' ht').thaw hn h2 he
end Go.AM
