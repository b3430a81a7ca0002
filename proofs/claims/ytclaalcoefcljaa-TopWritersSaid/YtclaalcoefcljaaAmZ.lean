/-
  The abstract machine: what is never written to after it was made is a value.
  Conditions: none; it speaks of any program.
-/
import Derived.Test.YtclaalcoefcljaaAmY
import Derived.DeepKeys4
set_option linter.all false
namespace Go.AM
open Go Go.RowKit
theorem zqk {G:Gh} {H:zaa} {w:World} {i:Nat} {cs:List AV} {x:Value} (hi:H i=some (.cells cs)) (hp:Hp G H w) (E:Evo G H w G (H.set i .ice) w) (hv:VR G H w (.ptr i 0) x):VR G (H.set i .ice) w (.ep cs) x:=by
 cases hv with
 | ptr _ _ hcel =>
  obtain ⟨f,hf⟩:=hp.range hi
  refine .ep cs (G.φ i) 0 f (fun hne=>⟨fun x ds hx=>?_,fun x d m hx hb=>?_⟩) (fun j c hj=>?_) (fun j c hj=>?_)
  ·rcases zaa.set_cases hx with ⟨_,hx⟩ | ⟨hne',hx⟩
   ·cases hx
   ·exact fun e=>hne' (hp.inj x i ds cs hx hi e)
  ·rcases zaa.set_cases hx with ⟨_,hx⟩ | ⟨_,hx⟩
   ·cases hx
   ·exact absurd hb (hp.sep i x cs d m hi hx)
  ·exact ⟨(hf j c hj).1,(hf j c hj).2.1⟩
  ·exact VR.evo E (hf j c hj).2.2
section
variable {P:Program} {N:Nat} {Q:Exit->Fr->zaa->Nat->Prop} {l:List (Nat×AV)} {H:zaa} {g:Nat} {b:Code} {O:Nat->Prop} {H0:zaa} {L L':List (Nat×Blk)} {bd:Nat}
theorem zcW (n t:Nat) {i:Nat} {cs:List AV} (hS:St O H0 L H bd) (hn:L[n]?=some (i,.cells cs)) (ht:lk l t=.ptr i 0) (hL:L.eraseIdx n=L')
  (h:∀H',St O H0 L' H' bd->Exit.thenA (fun fr' H' g'=>∃fr0 H0 g0,zfM fr' H' g' fr0 H0 g0/\wpA P N b Q fr0 H0 g0) Q .normal (Fr.of ((t,.ep cs)::l)) H' g) :
  Exit.thenA (fun fr' H' g'=>∃fr0 H0 g0,zfM fr' H' g' fr0 H0 g0/\wpA P N b Q fr0 H0 g0) Q .normal (Fr.of l) H g:=by
 have hi:H i=some (.cells cs):=hS.get hn
 have hOi:=hS.has _ (List.mem_of_getElem? hn)
 have hlt:n<L.length:=(List.getElem?_eq_some_iff.1 hn).1
 have hge:L[n]=(i,.cells cs):=(List.getElem?_eq_some_iff.1 hn).2
 have hsub:(L.eraseIdx n).Sublist L:=List.eraseIdx_sublist _ _
 have hnot:∀p,p∈L.eraseIdx n->p.1≠i:=by
  intro p hp e
  have hnd:=hS.nd
  obtain ⟨q,hq,hne⟩:∃q,L[q]?=some p/\q≠n:=by
   obtain ⟨q,hq⟩:=List.getElem?_of_mem hp
   rw [List.getElem?_eraseIdx] at hq
   split at hq
   ·exact ⟨q,hq,by omega⟩
   ·exact ⟨q+1,hq,by omega⟩
  have h1:(L.map (·.1))[q]?=some i:=by rw [List.getElem?_map,hq,←e];rfl
  have h2:(L.map (·.1))[n]?=some i:=by rw [List.getElem?_map,hn];rfl
  have hql:q<(L.map (·.1)).length:=(List.getElem?_eq_some_iff.1 h1).1
  have hnl:n<(L.map (·.1)).length:=(List.getElem?_eq_some_iff.1 h2).1
  have e1:=(List.getElem?_eq_some_iff.1 h1).2
  have e2:=(List.getElem?_eq_some_iff.1 h2).2
  exact hne ((List.getElem_inj hnd).1 (e1.trans e2.symm))
 obtain ⟨fr0,H1,g1,hd,hw⟩:=h (H.set i .ice) (hL▸⟨fun j hj=>⟨(hS.old j hj).1,(zaa.set_ne _ _ (show j≠i from fun e=>hOi.1 (by rw [←e];exact hj))).trans (hS.old j hj).2⟩,fun p hp=>by
  have:=hS.has p (hsub.subset hp)
  exact ⟨this.1,this.2.1,by rw [zaa.set_ne _ _ (hnot p hp)];exact this.2.2⟩,hS.nd.sublist (hsub.map _),fun j hj=>by
   have h3:i<bd:=hOi.2.1
   rw [zaa.set_ne _ _ (by omega)];exact hS.fr j hj⟩)
 refine ⟨fr0,H1,g1,zfM.trans (fun hf=>?_) hd,hw⟩
 obtain ⟨h1,h2⟩:=zji hi hf
 refine ⟨h1,fun G w hp=>?_⟩
 obtain ⟨q1,q2⟩:=h2 G w hp
 refine ⟨G,q1,q2,fun t' x hv=>?_⟩
 show VR G _ w (lk _ t') x
 by_cases e:t'=t
 ·subst e
  rw [zjm]
  have hv:VR G H w (lk l t') x:=hv
  rw [ht] at hv
  exact zqk hi hp q2.evo hv
 ·rw [zmK e]
  exact VR.evo q2.evo hv
end
section
variable {P:Program} {N:Nat} {l:List (Nat×AV)} {H:zaa} {g:Nat} {lim:Option Nat} {g0 i:Nat} {ops:Array Oper} {K:Fr->zaa->Nat->Prop} {r:List Oper} {d:Nat} {ty:TypeId} {pos:String} {after:Array Edge}
 {O:Nat->Prop} {H0:zaa} {L Lp:List (Nat×Blk)} {b:Nat}
end
theorem zoK {α:Type} {xs:List α} {z:Int} {u:α} (h:idx xs z=some u):0<=z/\z<xs.length:=by
 unfold idx at h
 split at h
 ·have:=(List.getElem?_eq_some_iff.1 h).1
  omega
 ·cases h
section
variable {P:Program} {N:Nat} {l:List (Nat×AV)} {H:zaa} {g:Nat} {lim:Option Nat} {g0 i:Nat} {ops:Array Oper} {K:Fr->zaa->Nat->Prop} {r:List Oper} {d:Nat} {ty:TypeId} {pos:String} {after:Array Edge}
 {O:Nat->Prop} {H0:zaa} {L Lp:List (Nat×Blk)} {b:Nat}
end
theorem zkI {α:Type} {xs:List α} {z:Int} {u:α} (h:idx xs z=some u):z.toNat<xs.length:=by
 have:=zoK h
 omega
def mpv {κ:Type} (kv:κ->Value) (M:List (κ×Int)):List (Value×Value):=M.map fun p=>(kv p.1,.int .i64 p.2)
section
variable {κ:Type} [DecidableEq κ] {kv:κ->Value}
structure KeysAre (P:Program) (kt:TypeId) (ok:κ->Bool) (kv:κ->Value):Prop where
 keyed:Go.Maps.Keyed P kt
 inj:∀a b,kv a=kv b->a=b
 key:∀a,ok a=true->∃l,keyOf P kt (kv a)=some l
theorem KeysAre.ok {P:Program} {kt:TypeId} {ok:κ->Bool} (K:KeysAre P kt ok kv) {M:List (κ×Int)} {k:κ} (h:mok ok M k=true):znK P kt (mpv kv M) (kv k):=by
 simp only [mok,Bool.and_eq_true,decide_eq_true_eq] at h
 obtain ⟨⟨h1,h2⟩,h3⟩:=h
 refine ⟨K.keyed,K.key _ h1,fun p hp=>?_,?_⟩
 ·obtain ⟨q,hq,rfl⟩:=List.mem_map.1 hp
  exact K.key _ (List.all_eq_true.1 h2 q hq)
 ·have:(mpv kv M).map (·.1)=(M.map (·.1)).map kv:=by simp [mpv]
  rw [this]
  exact List.Pairwise.map _ (fun a b hab e=>hab (K.inj _ _ e)) h3
end
section
variable {P:Program} {N:Nat} {l:List (Nat×AV)} {H:zaa} {g:Nat} {lim:Option Nat} {g0 i:Nat} {ops:Array Oper} {K:Fr->zaa->Nat->Prop} {r:List Oper} {d:Nat} {ty:TypeId} {pos:String} {after:Array Edge}
 {O:Nat->Prop} {H0:zaa} {L Lp:List (Nat×Blk)} {b:Nat} {κ:Type} [DecidableEq κ] {kv:κ->Value} {ok:κ->Bool}
end
section
variable {G:Gh} {H:zaa} {w w':World}
theorem zl9 (hp:Hp G H w) {new:Nat} (hn:H new=none) {b:Nat} {k:Option Loop} {p:Obj->Prop} {o:Obj} (hb:∀b,b<w.heap.size->w'.heap[b]?=w.heap[b]?) (hs:w.heap.size<=w'.heap.size)
  (ho:w'.os=w.os) (ht:w'.tape=w.tape) (hu:w'.output=w.output) (hge:w.heap.size<=b) (hg:w'.heap[b]?=some o) (hpo:p o/\fits k o) (hnc:∀vs ty fr,o≠.cells vs ty fr) :
  Hp (G.atφ new b) (H.set new (.obj k p)) w'/\Ext G H w (G.atφ new b) (H.set new (.obj k p)) w':=by
 have hφ:∀i,i≠new->(G.atφ new b).φ i=G.φ i:=fun i h=>by simp [Gh.atφ,h]
 have hφn:(G.atφ new b).φ new=b:=by simp [Gh.atφ]
 have hH:∀i x,H i=some x->(H.set new (.obj k p)) i=some x:=fun i x h=>by rw [zaa.set_ne _ _ (zb0 hn h)];exact h
 have E:Evo G H w (G.atφ new b) (H.set new (.obj k p)) w':=by
  refine .of_grow hb (fun i x h=>⟨hH i x h,hφ i (zb0 hn h),rfl,rfl⟩) (fun i x h=>?_)
  rcases zaa.set_cases h with ⟨rfl,rfl⟩ | ⟨_,h⟩
  ·exact .inr ⟨fun _ h=>(by cases h),fun _ _ h=>(by cases h)⟩
  ·exact .inl h
 have hcell:∀j a,(H.set new (.obj k p)) j=some (.cells a)->j≠new/\H j=some (.cells a):=fun j a h=>by
  rcases zaa.set_cases h with ⟨_,h2⟩ | ⟨hne,h2⟩
  ·cases h2
  ·exact ⟨hne,h2⟩
 have hrow:∀j d n,(H.set new (.obj k p)) j=some (.row d n)->H j=some (.row d n):=fun j d n h=>by
  rcases zaa.set_cases h with ⟨_,h2⟩ | ⟨_,h2⟩
  ·cases h2
  ·exact h2
 have hlt:∀i k' q,H i=some (.obj k' q)->G.φ i<w.heap.size:=fun i k' q h=>hp.lt (.inr (.inr ⟨i,k',q,h,rfl⟩))
 refine ⟨⟨fun i cs hi=>?_,fun i d n hi=>?_,fun i j cs ds h1 h2 he=>?_,fun i j cs d n h1 h2=>?_,fun i j d m d' n b h1 h2=>hp.own i j d m d' n b (hrow i d m h1) (hrow j d' n h2),fun i k' q hi=>?_,fun i j k1 k2 q q' h1 h2 he=>?_⟩,⟨E,ho,ht,hu,hs,fun b hlt _=>hb b hlt,fun b' h=>?_⟩⟩
 ·obtain ⟨hne,h⟩:=hcell i cs hi
  obtain ⟨us,tu,hg,hs,h1',hv'⟩:=hp.cells i cs h
  exact ⟨us,tu,by rw [hφ i hne,hb _ (hp.lt (.inl ⟨i,cs,h,rfl⟩))];exact hg,hs,h1',fun j c x hc hx=>(hv' j c x hc hx).evo E⟩
 ·obtain ⟨hz,ys,a1,a2⟩:=hp.rows i d n (hrow i d n hi)
  refine ⟨hz,ys,a1,a2.imp id ?_⟩
  rintro ⟨g,cap,cur,b1,b2,b3,b4⟩
  exact ⟨g,cap,cur,b1,b2,by rw [hb g (Array.getElem?_eq_some_iff.1 b3).1];exact b3,b4⟩
 ·obtain ⟨n1,h1⟩:=hcell i cs h1
  obtain ⟨n2,h2⟩:=hcell j ds h2
  rw [hφ i n1,hφ j n2] at he
  exact hp.inj i j cs ds h1 h2 he
 ·obtain ⟨n1,h1⟩:=hcell i cs h1
  rw [hφ i n1]
  exact hp.sep i j cs d n h1 (hrow j d n h2)
 ·rcases zaa.set_cases hi with ⟨rfl,h⟩ | ⟨hne,h⟩
  ·injection h with h1 h2
   subst h1 h2
   exact ⟨o,by rw [hφn];exact hg,hpo,hnc⟩
  ·obtain ⟨o',h1,h2,h3⟩:=hp.objs i k' q h
   exact ⟨o',by rw [hφ i hne,hb _ (hlt i k' q h)];exact h1,h2,h3⟩
 ·rcases zaa.set_cases h1 with ⟨rfl,_⟩ | ⟨n1,m1⟩<;>rcases zaa.set_cases h2 with ⟨rfl,_⟩ | ⟨n2,m2⟩
  ·rfl
  ·rw [hφn,hφ j n2] at he
   have:=hlt j _ _ m2
   omega
  ·rw [hφn,hφ i n1] at he
   have:=hlt i _ _ m1
   omega
  ·rw [hφ i n1,hφ j n2] at he
   exact hp.oinj i j k1 k2 q q' m1 m2 he
 ·rcases h with ⟨i,cs,hi,rfl⟩ | ⟨i,d,n,hi,h⟩ | ⟨i,k',q,hi,rfl⟩
  ·obtain ⟨n1,h1⟩:=hcell i cs hi
   exact .inl (.inl ⟨i,cs,h1,(hφ i n1).symm⟩)
  ·exact .inl (.inr (.inl ⟨i,d,n,hrow i d n hi,h⟩))
  ·rcases zaa.set_cases hi with ⟨rfl,_⟩ | ⟨n1,h1⟩
   ·exact .inr (by rw [hφn];exact hge)
   ·exact .inl (.inr (.inr ⟨i,k',q,h1,(hφ i n1).symm⟩))
end
def zql (P:Program) (f:FuncId) (as:List AV) (p:Obj->Prop):Prop :=
 zoy P f/\∀(G:Gh) (w:World) (vs:Array Value),VRs G E0 w as vs->Calls P f vs w fun en w'=>∃v G' j,en=.returned v /\
  Hp G' (E0.set j (.obj none p)) w'/\Ext G E0 w G' (E0.set j (.obj none p)) w'/\VR G' (E0.set j (.obj none p)) w' (.mp j) v
theorem zql.le {P:Program} {f:FuncId} {as bs:List AV} {p:Obj->Prop} (h:zql P f as p) (hl:LeL as bs):zql P f bs p :=
 ⟨h.1,fun G w vs hv=>h.2 G w vs (hv.le hl)⟩
theorem zql.new {P:Program} {f:FuncId} {as:List AV} {p:Obj->Prop} (h:zql P f as p) (hp:∀a,a∈as->Pure a):zhk P f as (fun new=>.mp new) (some (.obj none p)):=by
 refine ⟨h.1,fun G H g new w vs hf hn hp1 hv=>(h.2 G w vs (zti hp hv)).mono fun en w' ⟨v,G',j,h1,h2,h3,h4⟩=>?_⟩
 obtain ⟨o,ho,hpo,hnc⟩:=h2.objs j none p (zaa.set_same _ _ _)
 have hge:w.heap.size<=G'.φ j:=by
  rcases h3.im (G'.φ j) (.inr (.inr ⟨j,none,p,zaa.set_same _ _ _,rfl⟩)) with h | h
  ·exact (zm5 h).elim
  ·exact h
 obtain ⟨q1,q2⟩:=zl9 (w':=w') hp1 hn (fun b hb=>h3.block b hb fun h=>zm5 h) h3.size h3.os h3.tape h3.output hge ho hpo hnc
 refine ⟨v,_,h1,q1,q2,?_⟩
 cases h4
 have:(G.atφ new (G'.φ j)).φ new=G'.φ j:=by simp [Gh.atφ]
 have hv:VR (G.atφ new (G'.φ j)) (H.set new (.obj none p)) w' (.mp new) (.map (some ((G.atφ new (G'.φ j)).φ new))):=.mp new none p (zaa.set_same _ _ _)
 rw [this] at hv
 exact hv
section
variable {P:Program} {N:Nat} {l:List (Nat×AV)} {H:zaa} {g:Nat} {lim:Option Nat} {g0 i:Nat} {ops:Array Oper} {K:Fr->zaa->Nat->Prop} {r:List Oper} {d:Nat} {ty:TypeId} {pos:String} {after:Array Edge}
 {O:Nat->Prop} {H0:zaa} {L Lp:List (Nat×Blk)} {b:Nat}
end
theorem zlc {P:Program} {k:FuncId} {first xs cap:List AV} {r:AV} (h:zaS P k (first++xs++cap) r):zmi P (.fn (.func k) first cap) xs [] r []:=zj2 h
section
variable {P:Program} {N:Nat} {l:List (Nat×AV)} {H:zaa} {g:Nat} {g0 i:Nat} {ops:Array Oper} {K:Fr->zaa->Nat->Prop} {r:List Oper} {d:Nat} {ty:TypeId} {pos:String} {after:Array Edge}
 {O:Nat->Prop} {H0:zaa} {L:List (Nat×Blk)} {b:Nat}
theorem zm8 {α:Type} {lim:Option Nat} {f:α->List AV} {a0:α} {zc:AV} {t:TypeId} {e:TypeId} {x y:Operand} {z:Int} {us:List α} (hS:St O H0 L H b) (hd:d<N) (hx:evL N l x=.v (.int .i64 z)) (hy:evL N l y=.v (.int .i64 z)) (hz0:0<z/\z<=1048576) (hu:us=List.replicate z.toNat a0) (hf0:f a0=[zc]) (hk:zaD P t=some 1) (he:zb5 P t=some e) (hz:zda P e=some [zc]) (hf:za3 P t=true) (hb:b<=g0+i)
  (h:∀H',St O H0 ((g0+i,.cells (us.map f).flatten)::L) H' (g0+i+1)->za7 P N lim g0 ops K (i+1) r (Fr.of ((d,.ms (g0+i) 0 1 us.length us.length)::l)) H' g) :
  za7 P N lim g0 ops K i (⟨some d,.makeSlice t x y,ty,pos,after,none⟩::r) (Fr.of l) H g:=by
 have hlen:us.length=z.toNat:=by rw [hu];simp
 have hmap:us.map f=List.replicate z.toNat [zc]:=by rw [hu];simp [hf0]
 have hn:zfi (.v (.int .i64 z))=some z.toNat:=if_pos (by omega)
 refine zb4 (v:=.ms (g0+i) 0 1 us.length us.length) (wr:=some (g0+i,.cells (us.map f).flatten)) hd rfl (by cases lim<;>rfl) ?_ (h _ (hS.add _ hb))
 simp only [zaE,hx,hy,hn,he,hz,Option.bind_some]
 rw [if_pos (by simp [hk,hf];omega),if_neg (by omega),hmap,hlen]
theorem zpd {t:TypeId} {e:TypeId} {x y:Operand} {z:Int} {us:List Int} (hS:St O H0 L H b) (hd:d<N) (hx:evL N l x=.v (.int .i64 z)) (hy:evL N l y=.v (.int .i64 z)) (hu:mkz z=some us) (hk:zaD P t=some 1) (he:zb5 P t=some e) (hz:zda P e=some [.v (.int .i64 0)]) (hf:za3 P t=true) (hb:b<=g0+i)
  (h:∀H',St O H0 (L++zfJ (g0+i) us.length (us.map cI)) H' (g0+i+1)->za7 P N none g0 ops K (i+1) r (Fr.of ((d,msn (g0+i) 1 us.length)::l)) H' g) :
  za7 P N none g0 ops K i (⟨some d,.makeSlice t x y,ty,pos,after,none⟩::r) (Fr.of l) H g:=by
 unfold mkz at hu
 split at hu
 case isFalse=>cases hu
 case isTrue hz0 =>
 injection hu with hu
 have hlen:us.length=z.toNat:=by rw [←hu];simp
 refine zm8 (f:=cI) hS hd hx hy hz0 hu.symm rfl hk he hz hf hb fun H' hS'=>?_
 have hne:us.map cI≠[]:=fun e=>by
  have:=congrArg List.length e
  simp only [List.length_map,List.length_nil] at this
  omega
 have e2:zd6 (g0+i) (us.map cI)=[(g0+i,.cells (us.map cI).flatten)]:=by unfold zd6;rw [if_neg hne]
 have h2:=h H' (St.unthaw (by simp) (by rw [e2];exact hS'.perm List.perm_append_comm))
 have e3:msn (g0+i) 1 us.length=.ms (g0+i) 0 1 us.length us.length:=by
  unfold msn
  rw [if_neg (by omega)]
 rw [e3] at h2
 exact h2
end
structure SeenOk (c:Nat) (q:List Nat):Prop where
 nodup:q.Nodup
 lt:∀e,e∈q->e<c
theorem SeenOk.nil (c:Nat):SeenOk c []:=⟨List.nodup_nil,fun _ h=>by simp at h⟩
theorem SeenOk.push {c e:Nat} {q:List Nat} (h:SeenOk c q) (he:e<c) (hn:q.toArray.contains e=false):SeenOk c (q++[e]):=by
 have hn':e∉q:=by simpa using hn
 refine ⟨List.nodup_append.2 ⟨h.nodup,by simp,fun a ha b hb=>?_⟩,fun x hx=>?_⟩
 ·simp at hb
  subst hb
  exact fun e'=>hn' (e'▸ha)
 ·rcases List.mem_append.1 hx with hx | hx
  ·exact h.lt x hx
  ·simp at hx
   omega
theorem SeenOk.le {c:Nat} {q:List Nat} (h:SeenOk c q):q.length<=c:=by
 have:=List.Nodup.length_le_of_subset h.nodup (l₂:=List.range c) fun x hx=>List.mem_range.2 (h.lt x hx)
 simpa using this
theorem SeenOk.perm {c:Nat} {q:List Nat} (h:SeenOk c q) (hall:∀e,e<c->q.toArray.contains e=true):q.Perm (List.range c):=by
 refine (List.perm_ext_iff_of_nodup h.nodup List.nodup_range).2 fun e=>⟨fun he=>List.mem_range.2 (h.lt e he),fun he=>?_⟩
 have:=hall e (List.mem_range.1 he)
 simpa using this
end Go.AM
