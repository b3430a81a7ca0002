/-
  The abstract machine: calls whose result holds several new slices.
  Conditions: none; it speaks of any program.
-/
import Derived.Test.YtebfppngmmdfkaaGreatAmWq
set_option linter.all false
namespace Go.AM
open Go Go.RowKit
abbrev RD:=TypeId×Nat×List (List AV)
def rowAt:List Nat->List RD->zab
 | j::js,r::rs=>(rowAt js rs).set j (.row r.1 r.2.2.length)
 | _,_=>E0
def zvt:List Nat->List RD->List AV
 | j::js,r::rs=>.sl (.id j) r.2.1 r.2.2::zvt js rs
 | _,_=>[]
def fill:List (Option Value)->List AV->List AV
 | [],_=>[]
 | some x::tm,s=>.v x::fill tm s
 | none::tm,a::s=>a::fill tm s
 | none::tm,[]=>.any::fill tm []
def VRL (G:Gh) (H:zab) (w:World) (cs:List AV) (vs:List Value):Prop:=vs.length=cs.length/\∀(i:Nat) (c:AV) (x:Value),cs[i]?=some c->vs[i]?=some x->VR G H w c x
theorem VRL.cons {G:Gh} {H:zab} {w:World} {c:AV} {x:Value} {cs:List AV} {vs:List Value} (h:VR G H w c x) (t:VRL G H w cs vs):VRL G H w (c::cs) (x::vs) :=
 ⟨by simp [t.1],fun i d y hd hy=>by
  cases i with
  | zero=>simp at hd hy;subst hd hy;exact h
  | succ i=>exact t.2 i d y (by simpa using hd) (by simpa using hy)⟩
def zxs (P:Program) (f:FuncId) (as:List AV) (tm:List (Option Value)) (rs:List RD):Prop :=
 zsm P f/\∀(G:Gh) (w:World) (vs:Array Value),G.lo<=w.heap.size->VRs G E0 w as vs->Calls P f vs w fun en w'=>∃v G' js,en=.returned v/\js.length=rs.length/\js.Nodup /\
  Hp G' (rowAt js rs) w'/\Ext G E0 w G' (rowAt js rs) w'/\VR G' (rowAt js rs) w' (.agg (fill tm (zvt js rs))) v
theorem zxs.le {P:Program} {f:FuncId} {as bs:List AV} {tm:List (Option Value)} {rs:List RD} (h:zxs P f as tm rs) (hl:LeL as bs):zxs P f bs tm rs :=
 ⟨h.1,fun G w vs hlo hv=>h.2 G w vs hlo (hv.le hl)⟩
structure Grw (w w':World):Prop where
 b:∀b,b<w.heap.size->w'.heap[b]?=w.heap[b]?
 s:w.heap.size<=w'.heap.size
 o:w'.os=w.os
 t:w'.tape=w.tape
 u:w'.output=w.output
structure Gro (G:Gh) (H:zab) (w w':World) (Gm:Gh) (Hm:zab) (S:List Nat):Prop where
 hp:Hp Gm Hm w'
 old:∀i x,H i=some x->Hm i=some x/\Gm.φ i=G.φ i/\Gm.σ i=G.σ i/\Gm.sz i=G.sz i
 cel:∀i cs,Hm i=some (.cells cs)->H i=some (.cells cs)\/(Gm.φ i∈S/\∀c,c∈cs->Flat c)
 row:∀i e n,Hm i=some (.row e n)->H i=some (.row e n)\/∀b,(Gm.σ i).ownBlock=some b->b∈S
 obj:∀i k p,Hm i=some (.obj k p)->H i=some (.obj k p)
 ice:∀i,Hm i=some .ice->H i=some .ice
 ge:∀b,b∈S->w.heap.size<=b
 lo:Gm.lo=G.lo
section
variable {G Gm:Gh} {H Hm:zab} {w w':World} {S:List Nat}
theorem Gro.evo (g:Gro G H w w' Gm Hm S) (gw:Grw w w'):Evo G H w Gm Hm w' :=
 .of_grow gw.b g.old (hlo:=g.lo) fun i x h=>by
  cases x with
  | cells cs=>exact (g.cel i cs h).imp id fun q=>⟨fun _ _=>g.ge _ q.1,fun e n h=>by cases h⟩
  | row e n=>exact (g.row i e n h).imp id fun q=>⟨fun _ h=>(by cases h),fun _ _ _ b hb=>g.ge _ (q b hb)⟩
  | obj k p=>exact .inl (g.obj i k p h)
  | ice=>exact .inl (g.ice i h)
theorem Gro.im (g:Gro G H w w' Gm Hm S) {b:Nat} (h:Im Gm Hm b):Im G H b\/b∈S:=by
 rcases h with ⟨i,cs,hi,rfl⟩ | ⟨i,e,n,hi,hb⟩ | ⟨i,k,p,hi,rfl⟩
 ·rcases g.cel i cs hi with h | h
  ·exact .inl (.inl ⟨i,cs,h,(g.old i _ h).2.1.symm⟩)
  ·exact .inr h.1
 ·rcases g.row i e n hi with h | h
  ·exact .inl (.inr (.inl ⟨i,e,n,h,by rw [←(g.old i _ h).2.2.1];exact hb⟩))
  ·exact .inr (h b hb)
 ·have h:=g.obj i k p hi
  exact .inl (.inr (.inr ⟨i,k,p,h,(g.old i _ h).2.1.symm⟩))
theorem Gro.ext (g:Gro G H w w' Gm Hm S) (gw:Grw w w'):Ext G H w Gm Hm w' :=
 ⟨g.evo gw,gw.o,gw.t,gw.u,gw.s,fun b hb _=>gw.b b hb,fun b h=>(g.im h).imp id fun h=>g.ge b h⟩
theorem Gro.start (hp:Hp G H w) (gw:Grw w w'):Gro G H w w' G H []:=by
 have E:Evo G H w G H w':=.of_grow gw.b (fun i x h=>⟨h,rfl,rfl,rfl⟩) (fun i x h=>.inl h)
 refine ⟨⟨fun i cs hi=>?_,fun i d n hi=>?_,hp.inj,hp.sep,hp.own,fun i k p hi=>?_,hp.oinj,hp.lo_le gw.s⟩,fun i x h=>⟨h,rfl,rfl,rfl⟩,fun i cs h=>.inl h,fun i e n h=>.inl h,fun i k p h=>h,fun i h=>h,(fun b h=>by simp at h),rfl⟩
 ·obtain ⟨vs,ty,hg,hs,h1,hv⟩:=hp.cells i cs hi
  exact ⟨vs,ty,by rw [gw.b _ (hp.lt (.inl ⟨i,cs,hi,rfl⟩))];exact hg,hs,h1,fun j c x hc hx=>(hv j c x hc hx).evo E⟩
 ·obtain ⟨hz,ys,b1,b2⟩:=hp.rows i d n hi
  refine ⟨hz,ys,b1,b2.imp id ?_⟩
  rintro ⟨g,cap,cur,c1,c2,c3,c4⟩
  exact ⟨g,cap,cur,c1,c2,by rw [gw.b g (Array.getElem?_eq_some_iff.1 c3).1];exact c3,c4⟩
 ·obtain ⟨o,ho,h2,h3⟩:=hp.objs i k p hi
  exact ⟨o,by rw [gw.b _ (hp.lt (.inr (.inr ⟨i,k,p,hi,rfl⟩)))];exact ho,h2,h3⟩
theorem Gro.keep (hp:Hp G H w) (gw:Grw w w') (g:Gro G H w w' Gm Hm S) {G2:Gh} {H2:zab} (E:Evo G H w G2 H2 w') {i:Nat} {cs:List AV} (hi:Hm i=some (.cells cs)) {us:Array Value} {ty:TypeId} (hg:w'.heap[Gm.φ i]?=some (.cells us ty (0,0)))
  (hv:∀(j:Nat) (c:AV) (x:Value),cs[j]?=some c->us[j]?=some x->VR Gm Hm w' c x):∀(j:Nat) (c:AV) (x:Value),cs[j]?=some c->us[j]?=some x->VR G2 H2 w' c x:=fun j c x hc hx=>by
 rcases g.cel i cs hi with h | h
 ·obtain ⟨vs,ty',h1,_,_,h2⟩:=hp.cells i cs h
  rw [(g.old i _ h).2.1,gw.b _ (hp.lt (.inl ⟨i,cs,h,rfl⟩)),h1] at hg
  injection hg with hg
  injection hg with hg
  subst hg
  exact (h2 j c x hc hx).evo E
 ·exact zmB (h.2 c (List.mem_of_getElem? hc)) (hv j c x hc hx)
end
end Go.AM
