/-
  The abstract machine: what is never written to after it was made is a value.
  Conditions: none; it speaks of any program.
-/
import Derived.Test.YtebfppngmmdfkaaAmY
import Derived.DeepKeys4
set_option linter.all false
namespace Go.AM
open Go Go.RowKit
def pA {α:Type} (f:α->List AV):Option α->AV
 | none=>.v (.pointer none)
 | some x=>.ep (f x)
theorem zpi {α:Type} (f:α->List AV) (x:Option α):cellsOf (pA f x)=some [pA f x]:=by
 cases x<;>rfl
theorem zqq {α:Type} {f:α->List AV} (h:∀x,∀c,c∈f x->Pure c) (x:Option α):Pure (pA f x):=by
 cases x with
 | none=>exact .v _
 | some x=>exact .ep _ (h x)
theorem zt8 {G:Gh} {H:zaa} {w:World} {i:Nat} {cs:List AV} {x:Value} (hi:H i=some (.cells cs)) (hp:Hp G H w) (E:Evo G H w G (H.set i .ice) w) (hv:VR G H w (.ptr i 0) x):VR G (H.set i .ice) w (.ep cs) x:=by
 cases hv with
 | ptr _ _ hcel =>
  obtain ⟨f,hf⟩:=hp.range hi
  refine .ep cs (G.φ i) 0 f (fun hne=>⟨fun x ds hx=>?_,fun x d m hx hb=>?_⟩) (fun j c hj=>?_) (fun j c hj=>?_)
  ·rcases zaa.set_cases hx with ⟨_,hx⟩ | ⟨hne',hx⟩
   ·cases hx
   ·exact fun e=>hne' (hp.inj x i ds cs hx hi e)
  ·rcases zaa.set_cases hx with ⟨_,hx⟩ | ⟨_,hx⟩
   ·cases hx
   ·exact absurd hb (hp.sep i x cs d m hi hx)
  ·exact ⟨(hf j c hj).1,(hf j c hj).2.1⟩
  ·exact VR.evo E (hf j c hj).2.2
section
variable {P:Program} {N:Nat} {Q:Exit->Fr->zaa->Nat->Prop} {l:List (Nat×AV)} {H:zaa} {g:Nat} {b:Code} {O:Nat->Prop} {H0:zaa} {L L':List (Nat×Blk)} {bd:Nat}
theorem zaZ (n t:Nat) {i:Nat} {cs:List AV} (hS:St O H0 L H bd) (hn:L[n]?=some (i,.cells cs)) (ht:lk l t=.ptr i 0) (hL:L.eraseIdx n=L')
  (h:∀H',St O H0 L' H' bd->Exit.thenA (fun fr' H' g'=>∃fr0 H0 g0,zjU fr' H' g' fr0 H0 g0/\wpA P N b Q fr0 H0 g0) Q .normal (Fr.of ((t,.ep cs)::l)) H' g) :
  Exit.thenA (fun fr' H' g'=>∃fr0 H0 g0,zjU fr' H' g' fr0 H0 g0/\wpA P N b Q fr0 H0 g0) Q .normal (Fr.of l) H g:=by
 have hi:H i=some (.cells cs):=hS.get hn
 have hOi:=hS.has _ (List.mem_of_getElem? hn)
 have hlt:n<L.length:=(List.getElem?_eq_some_iff.1 hn).1
 have hge:L[n]=(i,.cells cs):=(List.getElem?_eq_some_iff.1 hn).2
 have hsub:(L.eraseIdx n).Sublist L:=List.eraseIdx_sublist _ _
 have hnot:∀p,p∈L.eraseIdx n->p.1≠i:=by
  intro p hp e
  have hnd:=hS.nd
  obtain ⟨q,hq,hne⟩:∃q,L[q]?=some p/\q≠n:=by
   obtain ⟨q,hq⟩:=List.getElem?_of_mem hp
   rw [List.getElem?_eraseIdx] at hq
   split at hq
   ·exact ⟨q,hq,by omega⟩
   ·exact ⟨q+1,hq,by omega⟩
  have h1:(L.map (·.1))[q]?=some i:=by rw [List.getElem?_map,hq,←e];rfl
  have h2:(L.map (·.1))[n]?=some i:=by rw [List.getElem?_map,hn];rfl
  have hql:q<(L.map (·.1)).length:=(List.getElem?_eq_some_iff.1 h1).1
  have hnl:n<(L.map (·.1)).length:=(List.getElem?_eq_some_iff.1 h2).1
  have e1:=(List.getElem?_eq_some_iff.1 h1).2
  have e2:=(List.getElem?_eq_some_iff.1 h2).2
  exact hne ((List.getElem_inj hnd).1 (e1.trans e2.symm))
 obtain ⟨fr0,H1,g1,hd,hw⟩:=h (H.set i .ice) (hL▸⟨fun j hj=>⟨(hS.old j hj).1,(zaa.set_ne _ _ (show j≠i from fun e=>hOi.1 (by rw [←e];exact hj))).trans (hS.old j hj).2⟩,fun p hp=>by
  have:=hS.has p (hsub.subset hp)
  exact ⟨this.1,this.2.1,by rw [zaa.set_ne _ _ (hnot p hp)];exact this.2.2⟩,hS.nd.sublist (hsub.map _),fun j hj=>by
   have h3:i<bd:=hOi.2.1
   rw [zaa.set_ne _ _ (by omega)];exact hS.fr j hj⟩)
 refine ⟨fr0,H1,g1,zjU.trans (fun hf=>?_) hd,hw⟩
 obtain ⟨h1,h2⟩:=zrv hi hf
 refine ⟨h1,fun G w hp=>?_⟩
 obtain ⟨q1,q2⟩:=h2 G w hp
 refine ⟨G,q1,q2,fun t' x hv=>?_⟩
 show VR G _ w (lk _ t') x
 by_cases e:t'=t
 ·subst e
  rw [zjo]
  have hv:VR G H w (lk l t') x:=hv
  rw [ht] at hv
  exact zt8 hi hp q2.evo hv
 ·rw [zmR e]
  exact VR.evo q2.evo hv
end
section
variable {P:Program} {N:Nat} {l:List (Nat×AV)} {H:zaa} {g:Nat} {lim:Option Nat} {g0 i:Nat} {ops:Array Oper} {K:Fr->zaa->Nat->Prop} {r:List Oper} {d:Nat} {ty:TypeId} {pos:String} {after:Array Edge}
 {O:Nat->Prop} {H0:zaa} {L Lp:List (Nat×Blk)} {b:Nat}
theorem zsA {α:Type} {f:α->List AV} {x:Operand} {p:Option α} {u:α} (hd:d<N) (hx:evL N l x=pA f p) (hu:p=some u) (h:zbh P N lim g0 ops K (i+1) r (Fr.of ((d,.ep (f u))::l)) H g):zbh P N lim g0 ops K i (⟨some d,.nilCheck x,ty,pos,after,none⟩::r) (Fr.of l) H g:=by
 subst hu
 exact zbM (wr:=none) hd rfl (by cases lim<;>rfl) (by simp [zaF,hx,pA]) h
theorem zmW {t:TypeId} {x y:Operand} {cs:List AV} {m s:Nat} {z:Int} (hd:d<N) (hx:evL N l x=.ep cs) (hy:evL N l y=.v (.int .i64 z)) (hq:zlO P t=some (m,s)) (hz:0<=z/\z<m)
  (h:zbh P N lim g0 ops K (i+1) r (Fr.of ((d,.ep (cs.drop (z.toNat*s)))::l)) H g):zbh P N lim g0 ops K i (⟨some d,.indexAddr t x y,ty,pos,after,none⟩::r) (Fr.of l) H g:=by
 refine zbM (v:=.ep (cs.drop (z.toNat*s))) (wr:=none) hd rfl (by cases lim<;>rfl) ?_ h
 have h1:zgP (.v (.int .i64 z))=some z.toNat:=if_pos hz.1
 have h2:z.toNat<m:=by omega
 simp [zaF,hx,hy,h1,hq,h2]
end
theorem ziu {α:Type} {xs:List α} {z:Int} {u:α} (h:idx xs z=some u):0<=z/\z<xs.length:=by
 unfold idx at h
 split at h
 ·have:=(List.getElem?_eq_some_iff.1 h).1
  omega
 ·cases h
theorem znT {P:Program} {t:TypeId} {cs:List AV} {xs:List Int} {z u:Int} (ha:zaN P t=none) (hs:scalar P t=true) (hc:cs.take xs.length=xs.map fun x=>.v (.int .i64 x)) (hu:idx xs z=some u):zgr P t (cs.drop (z.toNat*1)) 0=some (.v (.int .i64 u)):=by
 have hl:=ziu hu
 refine zj5 ha hs ?_
 have hu':xs[z.toNat]?=some u:=by
  unfold idx at hu
  rwa [if_pos hl.1] at hu
 have h2:=congrArg (fun l=>l[z.toNat]?) hc
 simp only [List.getElem?_take,List.getElem?_map,hu',Option.map_some] at h2
 rw [if_pos (by omega)] at h2
 rw [List.getElem?_drop,Nat.mul_one,Nat.add_zero]
 exact h2
def vI (x:Int):AV:=.v (.int .i64 x)
theorem zjq {cs:List AV} {o:Nat} {v:AV} (h:o<cs.length):zdm cs o [v]=cs.set o v:=by
 unfold zdm
 apply List.ext_getElem?
 intro q
 by_cases q1:q<o
 ·rw [List.append_assoc,List.getElem?_append_left (by simp;omega),List.getElem?_take,if_pos q1,List.getElem?_set_ne (by omega)]
 ·by_cases q2:q=o
  ·subst q2
   rw [List.append_assoc,List.getElem?_append_right (by simp;omega)]
   simp [Nat.min_eq_left (Nat.le_of_lt h),h]
  ·rw [List.getElem?_append_right (by simp;omega),List.getElem?_drop,List.getElem?_set_ne (by omega)]
   congr 1
   simp
   omega
theorem ziv (u:List Int):(List.range u.length).map (fun q=>vI (u.getD q 0))=u.map vI:=by
 apply List.ext_getElem?
 intro q
 by_cases h:q<u.length
 ·simp [h,List.getD,vI]
 ·simp [List.getElem?_eq_none (Nat.le_of_not_lt h)]
  omega
section
variable {P:Program} {N:Nat} {l:List (Nat×AV)} {H:zaa} {g:Nat} {lim:Option Nat} {g0 i:Nat} {ops:Array Oper} {K:Fr->zaa->Nat->Prop} {r:List Oper} {d:Nat} {ty:TypeId} {pos:String} {after:Array Edge}
 {O:Nat->Prop} {H0:zaa} {L Lp:List (Nat×Blk)} {b:Nat}
theorem zij {t:TypeId} {x y:Operand} {j off m s:Nat} {z:Int} (hd:d<N) (hx:evL N l x=.ptr j off) (hy:evL N l y=.v (.int .i64 z)) (hq:zlO P t=some (m,s)) (hz:0<=z/\z<m)
  (h:zbh P N lim g0 ops K (i+1) r (Fr.of ((d,.ptr j (off+z.toNat*s))::l)) H g):zbh P N lim g0 ops K i (⟨some d,.indexAddr t x y,ty,pos,after,none⟩::r) (Fr.of l) H g:=by
 refine zbM (v:=.ptr j (off+z.toNat*s)) (wr:=none) hd rfl (by cases lim<;>rfl) ?_ h
 have h1:zgP (.v (.int .i64 z))=some z.toNat:=if_pos hz.1
 have h2:z.toNat<m:=by omega
 simp [zaF,hx,hy,h1,hq,h2]
theorem zj6 {t:TypeId} {x y:Operand} {j off:Nat} {cs cs':List AV} {xs u:List Int} {z v:Int} {L':List (Nat×Blk)} (n:Nat) (hS:St O H0 L H b) (hx:evL N l x=.ptr j (off+z.toNat*1)) (hn:L[n]?=some (j,.cells cs)) (ho:Ok lim ops i j)
  (hy:evL N l y=.v (.int .i64 v)) (hc:(cs.drop off).take xs.length=xs.map vI) (hu:zsX xs z v=some u) (hv:zaB P t=some 1) (hcs:cs.take off++(List.range xs.length).map (fun q=>vI (u.getD q 0))++cs.drop (off+xs.length)=cs') (hL:putAt L n (.cells cs')=L')
  (h:∀H',St O H0 L' H' b->zbh P N lim g0 ops K (i+1) r (Fr.of l) H' g):zbh P N lim g0 ops K i (⟨none,.store t x y,ty,pos,after,none⟩::r) (Fr.of l) H g:=by
 unfold zsX at hu
 split at hu
 case isFalse=>cases hu
 case isTrue hz =>
 injection hu with hu
 have hlen:off+xs.length<=cs.length:=by
  have:=congrArg List.length hc
  simp at this
  omega
 have hul:u.length=xs.length:=by rw [←hu];simp
 refine za1 (v:=.v (.int .i64 v)) (ns:=[.v (.int .i64 v)]) (L':=L') n hS hx hn ho hy rfl hv (by simp;omega) ?_ h
 rw [←hL]
 congr 2
 rw [zjq (by omega),Nat.mul_one,←hcs,←hul,ziv,←hu]
 have e:cs=cs.take off++xs.map vI++cs.drop (off+xs.length):=by
  rw [←hc,List.append_assoc,←List.drop_drop,List.take_append_drop,List.take_append_drop]
 have hlo:(cs.take off).length=off:=by rw [List.length_take];omega
 conv=>lhs;rw [e]
 rw [List.append_assoc,List.set_append_right _ _ (by omega),hlo,List.append_assoc]
 congr 1
 rw [show off+z.toNat-off=z.toNat by omega,List.set_append_left _ _ (by simp;omega),List.map_set,List.length_set]
 rfl
end
theorem znU {α:Type} {xs:List α} {z:Int} {u:α} (h:idx xs z=some u):z.toNat<xs.length:=by
 have:=ziu h
 omega
theorem zrP {P:Program} {t:TypeId} {cs:List AV} {xs:List Int} {z u:Int} (ha:zaN P t=none) (hs:scalar P t=true) (hc:cs.take xs.length=xs.map fun x=>.v (.int .i64 x)) (hu:idx xs z=some u):zgr P t cs (z.toNat*1)=some (.v (.int .i64 u)):=by
 have h:=znT ha hs hc hu
 unfold zgr at h ⊢
 rw [ha] at h ⊢
 simp only [hs,if_true,List.getElem?_drop,Nat.add_zero] at h ⊢
 exact h
def mpv {κ:Type} (kv:κ->Value) (M:List (κ×Int)):List (Value×Value):=M.map fun p=>(kv p.1,.int .i64 p.2)
section
variable {κ:Type} [DecidableEq κ] {kv:κ->Value}
structure KeysAre (P:Program) (kt:TypeId) (ok:κ->Bool) (kv:κ->Value):Prop where
 keyed:Go.Maps.Keyed P kt
 inj:∀a b,kv a=kv b->a=b
 key:∀a,ok a=true->∃l,keyOf P kt (kv a)=some l
theorem KeysAre.ok {P:Program} {kt:TypeId} {ok:κ->Bool} (K:KeysAre P kt ok kv) {M:List (κ×Int)} {k:κ} (h:mok ok M k=true):zpA P kt (mpv kv M) (kv k):=by
 simp only [mok,Bool.and_eq_true,decide_eq_true_eq] at h
 obtain ⟨⟨h1,h2⟩,h3⟩:=h
 refine ⟨K.keyed,K.key _ h1,fun p hp=>?_,?_⟩
 ·obtain ⟨q,hq,rfl⟩:=List.mem_map.1 hp
  exact K.key _ (List.all_eq_true.1 h2 q hq)
 ·have:(mpv kv M).map (·.1)=(M.map (·.1)).map kv:=by simp [mpv]
  rw [this]
  exact List.Pairwise.map _ (fun a b hab e=>hab (K.inj _ _ e)) h3
end
section
variable {P:Program} {N:Nat} {l:List (Nat×AV)} {H:zaa} {g:Nat} {lim:Option Nat} {g0 i:Nat} {ops:Array Oper} {K:Fr->zaa->Nat->Prop} {r:List Oper} {d:Nat} {ty:TypeId} {pos:String} {after:Array Edge}
 {O:Nat->Prop} {H0:zaa} {L Lp:List (Nat×Blk)} {b:Nat} {κ:Type} [DecidableEq κ] {kv:κ->Value} {ok:κ->Bool}
end
section
variable {G:Gh} {H:zaa} {w w':World}
theorem zpj (hp:Hp G H w) {new:Nat} (hn:H new=none) {b:Nat} {k:Option Loop} {p:Obj->Prop} {o:Obj} (hb:∀b,b<w.heap.size->w'.heap[b]?=w.heap[b]?) (hs:w.heap.size<=w'.heap.size)
  (ho:w'.os=w.os) (ht:w'.tape=w.tape) (hu:w'.output=w.output) (hge:w.heap.size<=b) (hg:w'.heap[b]?=some o) (hpo:p o/\fits k o) (hnc:∀vs ty fr,o≠.cells vs ty fr) :
  Hp (G.atφ new b) (H.set new (.obj k p)) w'/\Ext G H w (G.atφ new b) (H.set new (.obj k p)) w':=by
 have hφ:∀i,i≠new->(G.atφ new b).φ i=G.φ i:=fun i h=>by simp [Gh.atφ,h]
 have hφn:(G.atφ new b).φ new=b:=by simp [Gh.atφ]
 have hH:∀i x,H i=some x->(H.set new (.obj k p)) i=some x:=fun i x h=>by rw [zaa.set_ne _ _ (zbR hn h)];exact h
 have E:Evo G H w (G.atφ new b) (H.set new (.obj k p)) w':=by
  refine .of_grow hb (fun i x h=>⟨hH i x h,hφ i (zbR hn h),rfl,rfl⟩) (fun i x h=>?_)
  rcases zaa.set_cases h with ⟨rfl,rfl⟩ | ⟨_,h⟩
  ·exact .inr ⟨fun _ h=>(by cases h),fun _ _ h=>(by cases h)⟩
  ·exact .inl h
 have hcell:∀j a,(H.set new (.obj k p)) j=some (.cells a)->j≠new/\H j=some (.cells a):=fun j a h=>by
  rcases zaa.set_cases h with ⟨_,h2⟩ | ⟨hne,h2⟩
  ·cases h2
  ·exact ⟨hne,h2⟩
 have hrow:∀j d n,(H.set new (.obj k p)) j=some (.row d n)->H j=some (.row d n):=fun j d n h=>by
  rcases zaa.set_cases h with ⟨_,h2⟩ | ⟨_,h2⟩
  ·cases h2
  ·exact h2
 have hlt:∀i k' q,H i=some (.obj k' q)->G.φ i<w.heap.size:=fun i k' q h=>hp.lt (.inr (.inr ⟨i,k',q,h,rfl⟩))
 refine ⟨⟨fun i cs hi=>?_,fun i d n hi=>?_,fun i j cs ds h1 h2 he=>?_,fun i j cs d n h1 h2=>?_,fun i j d m d' n b h1 h2=>hp.own i j d m d' n b (hrow i d m h1) (hrow j d' n h2),fun i k' q hi=>?_,fun i j k1 k2 q q' h1 h2 he=>?_,hp.lo_le hs⟩,⟨E,ho,ht,hu,hs,fun b hlt _=>hb b hlt,fun b' h=>?_⟩⟩
 ·obtain ⟨hne,h⟩:=hcell i cs hi
  obtain ⟨us,tu,hg,hs,h1',hv'⟩:=hp.cells i cs h
  exact ⟨us,tu,by rw [hφ i hne,hb _ (hp.lt (.inl ⟨i,cs,h,rfl⟩))];exact hg,hs,h1',fun j c x hc hx=>(hv' j c x hc hx).evo E⟩
 ·obtain ⟨hz,ys,a1,a2⟩:=hp.rows i d n (hrow i d n hi)
  refine ⟨hz,ys,a1,a2.imp id ?_⟩
  rintro ⟨g,cap,cur,b1,b2,b3,b4⟩
  exact ⟨g,cap,cur,b1,b2,by rw [hb g (Array.getElem?_eq_some_iff.1 b3).1];exact b3,b4⟩
 ·obtain ⟨n1,h1⟩:=hcell i cs h1
  obtain ⟨n2,h2⟩:=hcell j ds h2
  rw [hφ i n1,hφ j n2] at he
  exact hp.inj i j cs ds h1 h2 he
 ·obtain ⟨n1,h1⟩:=hcell i cs h1
  rw [hφ i n1]
  exact hp.sep i j cs d n h1 (hrow j d n h2)
 ·rcases zaa.set_cases hi with ⟨rfl,h⟩ | ⟨hne,h⟩
  ·injection h with h1 h2
   subst h1 h2
   exact ⟨o,by rw [hφn];exact hg,hpo,hnc⟩
  ·obtain ⟨o',h1,h2,h3⟩:=hp.objs i k' q h
   exact ⟨o',by rw [hφ i hne,hb _ (hlt i k' q h)];exact h1,h2,h3⟩
 ·rcases zaa.set_cases h1 with ⟨rfl,_⟩ | ⟨n1,m1⟩<;>rcases zaa.set_cases h2 with ⟨rfl,_⟩ | ⟨n2,m2⟩
  ·rfl
  ·rw [hφn,hφ j n2] at he
   have:=hlt j _ _ m2
   omega
  ·rw [hφn,hφ i n1] at he
   have:=hlt i _ _ m1
   omega
  ·rw [hφ i n1,hφ j n2] at he
   exact hp.oinj i j k1 k2 q q' m1 m2 he
 ·rcases h with ⟨i,cs,hi,rfl⟩ | ⟨i,d,n,hi,h⟩ | ⟨i,k',q,hi,rfl⟩
  ·obtain ⟨n1,h1⟩:=hcell i cs hi
   exact .inl (.inl ⟨i,cs,h1,(hφ i n1).symm⟩)
  ·exact .inl (.inr (.inl ⟨i,d,n,hrow i d n hi,h⟩))
  ·rcases zaa.set_cases hi with ⟨rfl,_⟩ | ⟨n1,h1⟩
   ·exact .inr (by rw [hφn];exact hge)
   ·exact .inl (.inr (.inr ⟨i,k',q,h1,(hφ i n1).symm⟩))
end
def zt9 (P:Program) (f:FuncId) (as:List AV) (p:Obj->Prop):Prop :=
 zsm P f/\∀(G:Gh) (w:World) (vs:Array Value),G.lo<=w.heap.size->VRs G E0 w as vs->Calls P f vs w fun en w'=>∃v G' j,en=.returned v /\
  Hp G' (E0.set j (.obj none p)) w'/\Ext G E0 w G' (E0.set j (.obj none p)) w'/\VR G' (E0.set j (.obj none p)) w' (.mp j) v
theorem zt9.le {P:Program} {f:FuncId} {as bs:List AV} {p:Obj->Prop} (h:zt9 P f as p) (hl:LeL as bs):zt9 P f bs p :=
 ⟨h.1,fun G w vs hlo hv=>h.2 G w vs hlo (hv.le hl)⟩
theorem zt9.new {P:Program} {f:FuncId} {as:List AV} {p:Obj->Prop} (h:zt9 P f as p) (hp:∀a,a∈as->Pure a):zkg P f as (fun new=>.mp new) (some (.obj none p)):=by
 refine ⟨h.1,fun G H g new w vs hf hn hp1 hv=>(h.2 G w vs hp1.lo (zt7 hp hv)).mono fun en w' ⟨v,G',j,h1,h2,h3,h4⟩=>?_⟩
 obtain ⟨o,ho,hpo,hnc⟩:=h2.objs j none p (zaa.set_same _ _ _)
 have hge:w.heap.size<=G'.φ j:=by
  rcases h3.im (G'.φ j) (.inr (.inr ⟨j,none,p,zaa.set_same _ _ _,rfl⟩)) with h | h
  ·exact (znS h).elim
  ·exact h
 obtain ⟨q1,q2⟩:=zpj (w':=w') hp1 hn (fun b hb=>h3.block b hb fun h=>znS h) h3.size h3.os h3.tape h3.output hge ho hpo hnc
 refine ⟨v,_,h1,q1,q2,?_⟩
 cases h4
 have:(G.atφ new (G'.φ j)).φ new=G'.φ j:=by simp [Gh.atφ]
 have hv:VR (G.atφ new (G'.φ j)) (H.set new (.obj none p)) w' (.mp new) (.map (some ((G.atφ new (G'.φ j)).φ new))):=.mp new none p (zaa.set_same _ _ _)
 rw [this] at hv
 exact hv
section
variable {P:Program} {N:Nat} {l:List (Nat×AV)} {H:zaa} {g:Nat} {lim:Option Nat} {g0 i:Nat} {ops:Array Oper} {K:Fr->zaa->Nat->Prop} {r:List Oper} {d:Nat} {ty:TypeId} {pos:String} {after:Array Edge}
 {O:Nat->Prop} {H0:zaa} {L Lp:List (Nat×Blk)} {b:Nat}
end
theorem zhm {P:Program} {k:FuncId} {first xs cap:List AV} {r:AV} (h:zav P k (first++xs++cap) r):zkh P (.fn (.func k) first cap) xs [] r []:=zmV h
theorem zjr {P:Program} {k:FuncId} {first xs cap:List AV} {r:AV} {L L':BL} (h:zhD P k (first++xs++cap) L r L'):zkh P (.fn (.func k) first cap) xs L r L':=h
section
variable {P:Program} {N:Nat} {l:List (Nat×AV)} {H:zaa} {g:Nat} {g0 i:Nat} {ops:Array Oper} {K:Fr->zaa->Nat->Prop} {r:List Oper} {d:Nat} {ty:TypeId} {pos:String} {after:Array Edge}
 {O:Nat->Prop} {H0:zaa} {L:List (Nat×Blk)} {b:Nat}
end
structure SeenOk (c:Nat) (q:List Nat):Prop where
 nodup:q.Nodup
 lt:∀e,e∈q->e<c
theorem SeenOk.nil (c:Nat):SeenOk c []:=⟨List.nodup_nil,fun _ h=>by simp at h⟩
theorem SeenOk.push {c e:Nat} {q:List Nat} (h:SeenOk c q) (he:e<c) (hn:q.toArray.contains e=false):SeenOk c (q++[e]):=by
 have hn':e∉q:=by simpa using hn
 refine ⟨List.nodup_append.2 ⟨h.nodup,by simp,fun a ha b hb=>?_⟩,fun x hx=>?_⟩
 ·simp at hb
  subst hb
  exact fun e'=>hn' (e'▸ha)
 ·rcases List.mem_append.1 hx with hx | hx
  ·exact h.lt x hx
  ·simp at hx
   omega
theorem SeenOk.le {c:Nat} {q:List Nat} (h:SeenOk c q):q.length<=c:=by
 have:=List.Nodup.length_le_of_subset h.nodup (l₂:=List.range c) fun x hx=>List.mem_range.2 (h.lt x hx)
 simpa using this
end Go.AM
