/-
  The abstract machine: calls whose result holds several new slices.
  Conditions: none; it speaks of any program.
-/
import Derived.Test.YtchhkifidbkjcaaAmWq
set_option linter.all false
namespace Go.AM
open Go Go.RowKit
abbrev RD:=TypeId×Nat×List (List AV)
def rowAt:List Nat->List RD->zaa
 | j::js,r::rs=>(rowAt js rs).set j (.row r.1 r.2.2.length)
 | _,_=>E0
def zoP:List Nat->List RD->List AV
 | j::js,r::rs=>.sl (.id j) r.2.1 r.2.2::zoP js rs
 | _,_=>[]
def fill:List (Option Value)->List AV->List AV
 | [],_=>[]
 | some x::tm,s=>.v x::fill tm s
 | none::tm,a::s=>a::fill tm s
 | none::tm,[]=>.any::fill tm []
def zlt:List (Option Value)->Nat
 | []=>0
 | some _::tm=>zlt tm
 | none::tm=>zlt tm+1
def VRL (G:Gh) (H:zaa) (w:World) (cs:List AV) (vs:List Value):Prop:=vs.length=cs.length/\∀(i:Nat) (c:AV) (x:Value),cs[i]?=some c->vs[i]?=some x->VR G H w c x
theorem VRL.cons {G:Gh} {H:zaa} {w:World} {c:AV} {x:Value} {cs:List AV} {vs:List Value} (h:VR G H w c x) (t:VRL G H w cs vs):VRL G H w (c::cs) (x::vs) :=
 ⟨by simp [t.1],fun i d y hd hy=>by
  cases i with
  | zero=>simp at hd hy;subst hd hy;exact h
  | succ i=>exact t.2 i d y (by simpa using hd) (by simpa using hy)⟩
theorem VRL.uncons {G:Gh} {H:zaa} {w:World} {c:AV} {cs:List AV} {vs:List Value} (h:VRL G H w (c::cs) vs):∃x us,vs=x::us/\VR G H w c x/\VRL G H w cs us:=by
 cases vs with
 | nil=>exact absurd h.1 (by simp)
 | cons x us=>exact ⟨x,us,rfl,h.2 0 c x rfl rfl,by have:=h.1;simpa using this,fun i d y hd hy=>h.2 (i+1) d y (by simpa using hd) (by simpa using hy)⟩
theorem zmC {G:Gh} {H:zaa} {w:World}:∀(tm:List (Option Value)) (s:List AV) (vs:List Value),s.length=zlt tm->VRL G H w (fill tm s) vs ->
  ∃us,VRL G H w s us/\∀(G2:Gh) (H2:zaa) (w2:World) (s2:List AV),s2.length=zlt tm->VRL G2 H2 w2 s2 us->VRL G2 H2 w2 (fill tm s2) vs
 | [],s,vs,hs,h=>⟨[],by have:s=[]:=List.eq_nil_of_length_eq_zero hs;subst this;exact ⟨rfl,fun i c x hc=>by simp at hc⟩,fun G2 H2 w2 s2 _ _=>⟨h.1,fun i c x hc=>by simp [fill] at hc⟩⟩
 | some y::tm,s,vs,hs,h=>by
  obtain ⟨x,us,rfl,hx,ht⟩:=VRL.uncons (show VRL G H w (.v y::fill tm s) vs from h)
  obtain ⟨us',h1,h2⟩:=zmC tm s us hs ht
  cases hx
  exact ⟨us',h1,fun G2 H2 w2 s2 hl h3=>.cons (.v _) (h2 G2 H2 w2 s2 hl h3)⟩
 | none::tm,a::s,vs,hs,h=>by
  obtain ⟨x,us,rfl,hx,ht⟩:=VRL.uncons (show VRL G H w (a::fill tm s) vs from h)
  obtain ⟨us',h1,h2⟩:=zmC tm s us (by simpa [zlt] using hs) ht
  refine ⟨x::us',.cons hx h1,fun G2 H2 w2 s2 hl h3=>?_⟩
  cases s2 with
  | nil=>simp [zlt] at hl
  | cons a2 s2 =>
   obtain ⟨x2,us2,e,hx2,ht2⟩:=VRL.uncons h3
   injection e with e1 e2
   subst e1 e2
   exact .cons hx2 (h2 G2 H2 w2 s2 (by simpa [zlt] using hl) ht2)
 | none::tm,[],vs,hs,h=>by simp [zlt] at hs
def zwx (P:Program) (f:FuncId) (as:List AV) (tm:List (Option Value)) (rs:List RD):Prop :=
 ztg P f/\∀(G:Gh) (w:World) (vs:Array Value),G.lo<=w.heap.size->VRs G E0 w as vs->Calls P f vs w fun en w'=>∃v G' js,en=.returned v/\js.length=rs.length/\js.Nodup /\
  Hp G' (rowAt js rs) w'/\Ext G E0 w G' (rowAt js rs) w'/\VR G' (rowAt js rs) w' (.agg (fill tm (zoP js rs))) v
theorem zwx.le {P:Program} {f:FuncId} {as bs:List AV} {tm:List (Option Value)} {rs:List RD} (h:zwx P f as tm rs) (hl:LeL as bs):zwx P f bs tm rs :=
 ⟨h.1,fun G w vs hlo hv=>h.2 G w vs hlo (hv.le hl)⟩
structure Grw (w w':World):Prop where
 b:∀b,b<w.heap.size->w'.heap[b]?=w.heap[b]?
 s:w.heap.size<=w'.heap.size
 o:w'.os=w.os
 t:w'.tape=w.tape
 u:w'.output=w.output
structure Gro (G:Gh) (H:zaa) (w w':World) (Gm:Gh) (Hm:zaa) (S:List Nat):Prop where
 hp:Hp Gm Hm w'
 old:∀i x,H i=some x->Hm i=some x/\Gm.φ i=G.φ i/\Gm.σ i=G.σ i/\Gm.sz i=G.sz i
 cel:∀i cs,Hm i=some (.cells cs)->H i=some (.cells cs)\/(Gm.φ i∈S/\∀c,c∈cs->Flat c)
 row:∀i e n,Hm i=some (.row e n)->H i=some (.row e n)\/∀b,(Gm.σ i).ownBlock=some b->b∈S
 obj:∀i k p,Hm i=some (.obj k p)->H i=some (.obj k p)
 ice:∀i,Hm i=some .ice->H i=some .ice
 ge:∀b,b∈S->w.heap.size<=b
 lo:Gm.lo=G.lo
section
variable {G Gm:Gh} {H Hm:zaa} {w w':World} {S:List Nat}
theorem Gro.evo (g:Gro G H w w' Gm Hm S) (gw:Grw w w'):Evo G H w Gm Hm w' :=
 .of_grow gw.b g.old (hlo:=g.lo) fun i x h=>by
  cases x with
  | cells cs=>exact (g.cel i cs h).imp id fun q=>⟨fun _ _=>g.ge _ q.1,fun e n h=>by cases h⟩
  | row e n=>exact (g.row i e n h).imp id fun q=>⟨fun _ h=>(by cases h),fun _ _ _ b hb=>g.ge _ (q b hb)⟩
  | obj k p=>exact .inl (g.obj i k p h)
  | ice=>exact .inl (g.ice i h)
theorem Gro.im (g:Gro G H w w' Gm Hm S) {b:Nat} (h:Im Gm Hm b):Im G H b\/b∈S:=by
 rcases h with ⟨i,cs,hi,rfl⟩ | ⟨i,e,n,hi,hb⟩ | ⟨i,k,p,hi,rfl⟩
 ·rcases g.cel i cs hi with h | h
  ·exact .inl (.inl ⟨i,cs,h,(g.old i _ h).2.1.symm⟩)
  ·exact .inr h.1
 ·rcases g.row i e n hi with h | h
  ·exact .inl (.inr (.inl ⟨i,e,n,h,by rw [←(g.old i _ h).2.2.1];exact hb⟩))
  ·exact .inr (h b hb)
 ·have h:=g.obj i k p hi
  exact .inl (.inr (.inr ⟨i,k,p,h,(g.old i _ h).2.1.symm⟩))
theorem Gro.ext (g:Gro G H w w' Gm Hm S) (gw:Grw w w'):Ext G H w Gm Hm w' :=
 ⟨g.evo gw,gw.o,gw.t,gw.u,gw.s,fun b hb _=>gw.b b hb,fun b h=>(g.im h).imp id fun h=>g.ge b h⟩
theorem Gro.start (hp:Hp G H w) (gw:Grw w w'):Gro G H w w' G H []:=by
 have E:Evo G H w G H w':=.of_grow gw.b (fun i x h=>⟨h,rfl,rfl,rfl⟩) (fun i x h=>.inl h)
 refine ⟨⟨fun i cs hi=>?_,fun i d n hi=>?_,hp.inj,hp.sep,hp.own,fun i k p hi=>?_,hp.oinj,hp.lo_le gw.s⟩,fun i x h=>⟨h,rfl,rfl,rfl⟩,fun i cs h=>.inl h,fun i e n h=>.inl h,fun i k p h=>h,fun i h=>h,(fun b h=>by simp at h),rfl⟩
 ·obtain ⟨vs,ty,hg,hs,h1,hv⟩:=hp.cells i cs hi
  exact ⟨vs,ty,by rw [gw.b _ (hp.lt (.inl ⟨i,cs,hi,rfl⟩))];exact hg,hs,h1,fun j c x hc hx=>(hv j c x hc hx).evo E⟩
 ·obtain ⟨hz,ys,b1,b2⟩:=hp.rows i d n hi
  refine ⟨hz,ys,b1,b2.imp id ?_⟩
  rintro ⟨g,cap,cur,c1,c2,c3,c4⟩
  exact ⟨g,cap,cur,c1,c2,by rw [gw.b g (Array.getElem?_eq_some_iff.1 c3).1];exact c3,c4⟩
 ·obtain ⟨o,ho,h2,h3⟩:=hp.objs i k p hi
  exact ⟨o,by rw [gw.b _ (hp.lt (.inr (.inr ⟨i,k,p,hi,rfl⟩)))];exact ho,h2,h3⟩
theorem Gro.keep (hp:Hp G H w) (gw:Grw w w') (g:Gro G H w w' Gm Hm S) {G2:Gh} {H2:zaa} (E:Evo G H w G2 H2 w') {i:Nat} {cs:List AV} (hi:Hm i=some (.cells cs)) {us:Array Value} {ty:TypeId} (hg:w'.heap[Gm.φ i]?=some (.cells us ty (0,0)))
  (hv:∀(j:Nat) (c:AV) (x:Value),cs[j]?=some c->us[j]?=some x->VR Gm Hm w' c x):∀(j:Nat) (c:AV) (x:Value),cs[j]?=some c->us[j]?=some x->VR G2 H2 w' c x:=fun j c x hc hx=>by
 rcases g.cel i cs hi with h | h
 ·obtain ⟨vs,ty',h1,_,_,h2⟩:=hp.cells i cs h
  rw [(g.old i _ h).2.1,gw.b _ (hp.lt (.inl ⟨i,cs,h,rfl⟩)),h1] at hg
  injection hg with hg
  injection hg with hg
  subst hg
  exact (h2 j c x hc hx).evo E
 ·exact zkD (h.2 c (List.mem_of_getElem? hc)) (hv j c x hc hx)
theorem Gro.addC (hp:Hp G H w) (gw:Grw w w') (g:Gro G H w w' Gm Hm S) {new b:Nat} {vs:Array Value} {ty:TypeId} {cs:List AV} (hn:Hm new=none) (hge:w.heap.size<=b) (hb:b∉S) (hg:w'.heap[b]?=some (.cells vs ty (0,0)))
  (hl:cs.length<=vs.size) (h1:∀(j:Nat) (x:Value),j<cs.length->vs[j]?=some x->x.oneCell'=true)
  (hv:∀(j:Nat) (c:AV) (x:Value),cs[j]?=some c->vs[j]?=some x->∀(G2:Gh) (H2:zaa) (w2:World),VR G2 H2 w2 c x) (hfl:∀c,c∈cs->Flat c) :
  Gro G H w w' (Gm.atC new b vs.size) (Hm.set new (.cells cs)) (b::S):=by
 have hφ:∀i,i≠new->(Gm.atC new b vs.size).φ i=Gm.φ i:=fun i h=>by simp [Gh.atC,Gh.atφ,h]
 have hφn:(Gm.atC new b vs.size).φ new=b:=by simp [Gh.atC,Gh.atφ]
 have hz:∀i,i≠new->(Gm.atC new b vs.size).sz i=Gm.sz i:=fun i h=>by simp [Gh.atC,h]
 have hzn:(Gm.atC new b vs.size).sz new=vs.size:=by simp [Gh.atC]
 have hfresh:∀b',Im Gm Hm b'->b'≠b:=fun b' h e=>by
  subst e
  rcases g.im h with h | h
  ·have:=hp.lt h;omega
  ·exact hb h
 have old':∀i x,H i=some x->(Hm.set new (.cells cs)) i=some x/\(Gm.atC new b vs.size).φ i=G.φ i/\(Gm.atC new b vs.size).σ i=G.σ i/\(Gm.atC new b vs.size).sz i=G.sz i:=fun i x h=>by
  obtain ⟨q1,q2,q3,q4⟩:=g.old i x h
  have hne:=zbk hn q1
  exact ⟨by rw [zaa.set_ne _ _ hne];exact q1,(hφ i hne).trans q2,q3,(hz i hne).trans q4⟩
 have cel':∀i ds,(Hm.set new (.cells cs)) i=some (.cells ds)->H i=some (.cells ds)\/((Gm.atC new b vs.size).φ i∈b::S/\∀c,c∈ds->Flat c):=fun i ds hi=>by
  rcases zaa.set_cases hi with ⟨rfl,h⟩ | ⟨hne,h⟩
  ·injection h with h
   subst h
   exact .inr ⟨by rw [hφn];exact List.mem_cons_self ..,hfl⟩
  ·exact (g.cel i ds h).imp id fun q=>⟨by rw [hφ i hne];exact List.mem_cons_of_mem _ q.1,q.2⟩
 have row':∀i e n,(Hm.set new (.cells cs)) i=some (.row e n)->H i=some (.row e n)\/∀b',((Gm.atC new b vs.size).σ i).ownBlock=some b'->b'∈b::S:=fun i e n hi=>by
  rcases zaa.set_cases hi with ⟨_,h⟩ | ⟨hne,h⟩
  ·cases h
  ·exact (g.row i e n h).imp id fun q b' hb'=>List.mem_cons_of_mem _ (q b' hb')
 have obj':∀i k p,(Hm.set new (.cells cs)) i=some (.obj k p)->H i=some (.obj k p):=fun i k p hi=>by
  rcases zaa.set_cases hi with ⟨_,h⟩ | ⟨hne,h⟩
  ·cases h
  ·exact g.obj i k p h
 have ice':∀i,(Hm.set new (.cells cs)) i=some .ice->H i=some .ice:=fun i hi=>by
  rcases zaa.set_cases hi with ⟨_,h⟩ | ⟨hne,h⟩
  ·cases h
  ·exact g.ice i h
 have ge':∀b',b'∈b::S->w.heap.size<=b':=fun b' h=>by
  rcases List.mem_cons.1 h with rfl | h
  ·exact hge
  ·exact g.ge b' h
 have E:Evo G H w (Gm.atC new b vs.size) (Hm.set new (.cells cs)) w':=.of_grow gw.b old' (hlo:=g.lo) fun i x h=>by
  cases x with
  | cells cs=>exact (cel' i cs h).imp id fun q=>⟨fun _ _=>ge' _ q.1,fun e n h=>by cases h⟩
  | row e n=>exact (row' i e n h).imp id fun q=>⟨fun _ h=>(by cases h),fun _ _ _ b hb=>ge' _ (q b hb)⟩
  | obj k p=>exact .inl (obj' i k p h)
  | ice=>exact .inl (ice' i h)
 refine ⟨⟨fun i ds hi=>?_,fun i d n hi=>?_,fun i j ds es hi hj he=>?_,fun i j ds d n hi hj=>?_,fun i j d m d' n b' hi hj h1 h2=>?_,fun i k p hi=>?_,fun i j k k' p q hi hj he=>?_,g.hp.lo⟩,old',cel',row',obj',ice',ge',g.lo⟩
 ·rcases zaa.set_cases hi with ⟨rfl,h⟩ | ⟨hne,h⟩
  ·injection h with h
   subst h
   exact ⟨vs,ty,by rw [hφn];exact hg,⟨hl,hzn.symm⟩,h1,fun j c x hc hx=>hv j c x hc hx _ _ _⟩
  ·obtain ⟨us,tu,hg,hs,h1',hv'⟩:=g.hp.cells i ds h
   exact ⟨us,tu,by rw [hφ i hne];exact hg,⟨hs.1,by rw [hz i hne];exact hs.2⟩,h1',g.keep hp gw E h hg hv'⟩
 ·rcases zaa.set_cases hi with ⟨rfl,h⟩ | ⟨hne,h⟩
  ·cases h
  ·rw [hz i hne]
   exact g.hp.rows i d n h
 ·rcases zaa.set_cases hi with ⟨rfl,_⟩ | ⟨hne,h⟩<;>rcases zaa.set_cases hj with ⟨rfl,_⟩ | ⟨hne',h'⟩
  ·rfl
  ·rw [hφn,hφ j hne'] at he
   exact absurd he.symm (hfresh _ (.inl ⟨j,_,h',rfl⟩))
  ·rw [hφn,hφ i hne] at he
   exact absurd he (hfresh _ (.inl ⟨i,_,h,rfl⟩))
  ·rw [hφ i hne,hφ j hne'] at he
   exact g.hp.inj i j _ _ h h' he
 ·rcases zaa.set_cases hj with ⟨_,h'⟩ | ⟨_,h'⟩
  ·cases h'
  ·rcases zaa.set_cases hi with ⟨rfl,_⟩ | ⟨hne,h⟩
   ·rw [hφn]
    exact fun e=>hfresh _ (.inr (.inl ⟨j,d,n,h',e⟩)) rfl
   ·rw [hφ i hne]
    exact g.hp.sep i j ds d n h h'
 ·rcases zaa.set_cases hi with ⟨_,h⟩ | ⟨_,h⟩
  ·cases h
  ·rcases zaa.set_cases hj with ⟨_,h'⟩ | ⟨_,h'⟩
   ·cases h'
   ·exact g.hp.own i j d m d' n b' h h' h1 h2
 ·rcases zaa.set_cases hi with ⟨_,h⟩ | ⟨hne,h⟩
  ·cases h
  ·rw [hφ i hne]
   exact g.hp.objs i k p h
 ·rcases zaa.set_cases hi with ⟨_,h⟩ | ⟨hne,h⟩
  ·cases h
  ·rcases zaa.set_cases hj with ⟨_,h'⟩ | ⟨hne',h'⟩
   ·cases h'
   ·rw [hφ i hne,hφ j hne'] at he
    exact g.hp.oinj i j k k' p q h h' he
theorem Gro.addR (hp:Hp G H w) (gw:Grw w w') (g:Gro G H w w' Gm Hm S) {new:Nat} {e:TypeId} {k n:Nat} {v:Value} {xs:List Value} (hn:Hm new=none) (hk:0<k) (hown:w'.ownsRow 0 e k v n xs)
  (hge:∀b,v.ownBlock=some b->w.heap.size<=b/\b∉S) :
  Gro G H w w' (Gm.atσ new v k) (Hm.set new (.row e n)) (v.ownBlock.toList++S):=by
 have hσ:∀i,i≠new->(Gm.atσ new v k).σ i=Gm.σ i/\(Gm.atσ new v k).sz i=Gm.sz i:=fun i h=>by simp [Gh.atσ,h]
 have hσn:(Gm.atσ new v k).σ new=v/\(Gm.atσ new v k).sz new=k:=by simp [Gh.atσ]
 have hfresh:∀b' b,Im Gm Hm b'->v.ownBlock=some b->b'≠b:=fun b' b h hb e=>by
  subst e
  obtain ⟨q1,q2⟩:=hge b' hb
  rcases g.im h with h | h
  ·have:=hp.lt h;omega
  ·exact q2 h
 have old':∀i x,H i=some x->(Hm.set new (.row e n)) i=some x/\(Gm.atσ new v k).φ i=G.φ i/\(Gm.atσ new v k).σ i=G.σ i/\(Gm.atσ new v k).sz i=G.sz i:=fun i x h=>by
  obtain ⟨q1,q2,q3,q4⟩:=g.old i x h
  have hne:=zbk hn q1
  exact ⟨by rw [zaa.set_ne _ _ hne];exact q1,q2,(hσ i hne).1.trans q3,(hσ i hne).2.trans q4⟩
 have cel':∀i ds,(Hm.set new (.row e n)) i=some (.cells ds)->H i=some (.cells ds)\/((Gm.atσ new v k).φ i∈v.ownBlock.toList++S/\∀c,c∈ds->Flat c):=fun i ds hi=>by
  rcases zaa.set_cases hi with ⟨_,h⟩ | ⟨hne,h⟩
  ·cases h
  ·exact (g.cel i ds h).imp id fun q=>⟨List.mem_append.2 (.inr q.1),q.2⟩
 have row':∀i d m,(Hm.set new (.row e n)) i=some (.row d m)->H i=some (.row d m)\/∀b',((Gm.atσ new v k).σ i).ownBlock=some b'->b'∈v.ownBlock.toList++S:=fun i d m hi=>by
  rcases zaa.set_cases hi with ⟨rfl,h⟩ | ⟨hne,h⟩
  ·exact .inr fun b' hb'=>by rw [hσn.1] at hb';rw [hb'];exact List.mem_append.2 (.inl (by simp))
  ·exact (g.row i d m h).imp id fun q b' hb'=>List.mem_append.2 (.inr (q b' (by rw [(hσ i hne).1] at hb';exact hb')))
 have obj':∀i k p,(Hm.set new (.row e n)) i=some (.obj k p)->H i=some (.obj k p):=fun i k p hi=>by
  rcases zaa.set_cases hi with ⟨_,h⟩ | ⟨hne,h⟩
  ·cases h
  ·exact g.obj i k p h
 have ice':∀i,(Hm.set new (.row e n)) i=some .ice->H i=some .ice:=fun i hi=>by
  rcases zaa.set_cases hi with ⟨_,h⟩ | ⟨hne,h⟩
  ·cases h
  ·exact g.ice i h
 have ge':∀b',b'∈v.ownBlock.toList++S->w.heap.size<=b':=fun b' h=>by
  rcases List.mem_append.1 h with h | h
  ·exact (hge b' (by cases hv:v.ownBlock with
    | none=>rw [hv] at h;simp at h
    | some y=>rw [hv] at h;simp at h;rw [h])).1
  ·exact g.ge b' h
 have E:Evo G H w (Gm.atσ new v k) (Hm.set new (.row e n)) w':=.of_grow gw.b old' (hlo:=g.lo) fun i x h=>by
  cases x with
  | cells cs=>exact (cel' i cs h).imp id fun q=>⟨fun _ _=>ge' _ q.1,fun e n h=>by cases h⟩
  | row e n=>exact (row' i e n h).imp id fun q=>⟨fun _ h=>(by cases h),fun _ _ _ b hb=>ge' _ (q b hb)⟩
  | obj k p=>exact .inl (obj' i k p h)
  | ice=>exact .inl (ice' i h)
 refine ⟨⟨fun i ds hi=>?_,fun i d m hi=>?_,fun i j ds es hi hj he=>?_,fun i j ds d m hi hj=>?_,fun i j d m d' m' b' hi hj h1 h2=>?_,fun i k p hi=>?_,fun i j k k' p q hi hj he=>?_,g.hp.lo⟩,old',cel',row',obj',ice',ge',g.lo⟩
 ·rcases zaa.set_cases hi with ⟨_,h⟩ | ⟨hne,h⟩
  ·cases h
  ·obtain ⟨us,tu,hg,hs,h1',hv'⟩:=g.hp.cells i ds h
   exact ⟨us,tu,hg,⟨hs.1,by rw [(hσ i hne).2];exact hs.2⟩,h1',g.keep hp gw E h hg hv'⟩
 ·rcases zaa.set_cases hi with ⟨rfl,h⟩ | ⟨hne,h⟩
  ·injection h with h0 h
   subst h h0
   rw [hσn.1,hσn.2]
   exact ⟨hk,xs,hown⟩
  ·rw [(hσ i hne).1,(hσ i hne).2]
   exact g.hp.rows i d m h
 ·rcases zaa.set_cases hi with ⟨_,h⟩ | ⟨hne,h⟩
  ·cases h
  ·rcases zaa.set_cases hj with ⟨_,h'⟩ | ⟨hne',h'⟩
   ·cases h'
   ·exact g.hp.inj i j _ _ h h' he
 ·rcases zaa.set_cases hi with ⟨_,h⟩ | ⟨hne,h⟩
  ·cases h
  ·rcases zaa.set_cases hj with ⟨rfl,_⟩ | ⟨hne',h'⟩
   ·rw [hσn.1]
    exact fun e=>hfresh _ _ (.inl ⟨i,ds,h,rfl⟩) e rfl
   ·rw [(hσ j hne').1]
    exact g.hp.sep i j ds d m h h'
 ·rcases zaa.set_cases hi with ⟨rfl,_⟩ | ⟨hne,h⟩<;>rcases zaa.set_cases hj with ⟨rfl,_⟩ | ⟨hne',h'⟩
  ·rfl
  ·rw [hσn.1] at h1
   rw [(hσ j hne').1] at h2
   exact absurd rfl (hfresh _ _ (.inr (.inl ⟨j,d',m',h',h2⟩)) h1)
  ·rw [hσn.1] at h2
   rw [(hσ i hne).1] at h1
   exact absurd rfl (hfresh _ _ (.inr (.inl ⟨i,d,m,h,h1⟩)) h2)
  ·rw [(hσ i hne).1] at h1
   rw [(hσ j hne').1] at h2
   exact g.hp.own i j d m d' m' b' h h' h1 h2
 ·rcases zaa.set_cases hi with ⟨_,h⟩ | ⟨hne,h⟩
  ·cases h
  ·exact g.hp.objs i k p h
 ·rcases zaa.set_cases hi with ⟨_,h⟩ | ⟨hne,h⟩
  ·cases h
  ·rcases zaa.set_cases hj with ⟨_,h'⟩ | ⟨hne',h'⟩
   ·cases h'
   ·exact g.hp.oinj i j k k' p q h h' he
end
end Go.AM
