/-
  The abstract machine: slices whose arrays are late ones.
  Conditions: none; it speaks of any program.
-/
import Derived.Test.YtebfppngmmdfkaaGreatAmPc
import Derived.Test.YtebfppngmmdfkaaGreatAmSd
set_option linter.all false
namespace Go.AM
open Go Go.RowKit
theorem VR.fr {G:Gh} {H:zab} {w:World} {k len cap:Nat} {es:List (List AV)} {x:Value} (h:VR G H w (.sl .no k es) x) (ht:zn7 G H w .fr k len cap x):VR G H w (.sl .fr k es) x:=by
 cases h with
 | sl _ _ _ a cap b o f hcap hs ha hc hv _=>exact .sl .fr k es a cap b o f hcap hs ha hc hv ht
theorem znu {P : Program} {N : Nat} (hm : P.follows .mixedOrders = true) {f : FuncId} {fn : Func} {c : Code} (hf : P.funcs[f]? = some fn) (hb : fn.body = some c) (hname : fn.name ≠ "runtime.NumGoroutine") (hN : fn.ntmps = N)
  {as:List AV} (hlen:as.length<=N) (hpa:∀a,a∈as->Pure a) {e:TypeId} {zs:List Int} {y:Value}
  (h:∀(G0:Gh) (w0:World) (C:Exit->Act->World->Prop),zuq N G0 w0 (zpk P N fn.results.toList e zs y) C->Snd P N G0 w0 C c (zhc as) E0 0):zav P f as (.tup [.sl .fr 1 (zaY zs),.v y]):=by
 intro H g hfr
 refine ⟨⟨fn,c,hf,hb,hname⟩,fun G w vs hp ha=>?_⟩
 have ha0:=zuX hpa ha
 refine callsIn_wide.1 (callsIn_of_wp_marks (n:=0) (F:=Fence.wide) hf hb trivial (h G w _ (fun ex fr H1 g1 a' w' hq S' _=>?_) _ _ hp.lo (zjk hN hlen (hp0 G w hp.lo) ha0) (fun _ _=>rfl)) rfl)
 obtain ⟨he,hq⟩:=hq
 obtain ⟨G1,hp1,hE,⟨Ds,hd1,hd2,hd3⟩,hsz,hv⟩:=S'
 have hx:∃x,zjb P N fr H1 fn.results.toList=some x:=by
  rcases hq with ⟨j,hx,_⟩ | ⟨_,hx⟩
  ·exact ⟨_,hx⟩
  ·exact ⟨_,hx⟩
 obtain ⟨x,hx⟩:=hx
 have hlr:(zaY zs).length=zs.length:=by simp [zaY]
 have main:LeavesInM Fence.wide 0 P fn a'.tmps (fun en w'=>∃v G',en=.returned v/\Hp G' H w'/\(zbB H g/\g<=g/\∀i,i<g->H i=none->H i=none)/\Ext G H w G' H w'/\VR G' H w' (.tup [.sl .fr 1 (zaY zs),.v y]) v) a'.defers .returning w':=by
  rw [hd1]
  refine ze4 Ds w' hp1 hE hd2 hd3 fun w2 hp2 hE2 hev=>?_
  obtain ⟨v,hrun,hvr⟩:=zgG (P:=P) (fn:=fn) hp2 (fun t ht=>(hv t ht).evo hev) hx
  have hu:∃u,v=.tuple #[u,y]/\(∃xs,w2.ownsRow 0 e 1 u (zaY zs).length xs/\(∀b,u.ownBlock=some b->w.heap.size<=b)/\(∀(G2:Gh) (H2:zab) (w3:World),RowVR G2 H2 w3 1 (zaY zs) xs))/\∀b,b<w.heap.size->w2.heap[b]?=w.heap[b]?:=by
   have hold:∀b,b<w.heap.size->w2.heap[b]?=w.heap[b]?:=fun b hb=>hE2.block b hb fun h=>znn h
   have tup:∀s:AV,VR G1 H1 w2 (.tup [s,.v y]) v->∃u,v=.tuple #[u,y]/\VR G1 H1 w2 s u:=fun s hs=>by
    cases hs with
    | tup _ us hl hc =>
     obtain ⟨l⟩:=us
     match l,hl with
     | [u,z],_ =>
      have h1:=hc 0 s u rfl rfl
      have h2:=hc 1 (.v y) z rfl rfl
      cases h2
      exact ⟨u,rfl,h1⟩
   rcases hq with ⟨j,hxj,hj⟩ | ⟨hz,hxj⟩
   ·rw [hx] at hxj
    injection hxj with hxj
    subst hxj
    obtain ⟨u,rfl,hu⟩:=tup _ hvr
    have hsub:∀i z,(E0.set j (.row e (zaY zs).length)) i=some z->H1 i=some z:=fun i z hi=>by
     rcases zab.set_cases hi with ⟨rfl,hy⟩ | ⟨_,hy⟩
     ·rw [hj,hy,hlr]
     ·cases hy
    obtain ⟨q1,q2⟩:=zgm (hp0 G w hp.lo) hp2 hE2 hsub (fun i hi=>by rcases hi with ⟨_,hi⟩ | hi<;>cases hi) (fun i d m hi=>by cases hi) (fun i q p hi=>by cases hi) (fun i cs hi=>by
     rcases zab.set_cases hi with ⟨_,hx⟩ | ⟨_,hx⟩
     ·cases hx
     ·cases hx)
    have h2:=hu.back hsub (.sl _ _ _ (fun τ hτ=>by injection hτ with hτ;subst hτ;exact ⟨_,_,zab.set_same _ _ _⟩) fun x hx c hc=>by
     obtain ⟨y,rfl⟩:=zdN zs x hx c hc
     exact .v _)
    obtain ⟨_,xs,b1,b2,b3,b4⟩:=zjn q1 q2 h2 (zdN zs)
    exact ⟨u,rfl,⟨xs,b1,b2,b3⟩,hold⟩
   ·rw [hx] at hxj
    injection hxj with hxj
    subst hxj
    obtain ⟨u,rfl,hu⟩:=tup _ hvr
    subst hz
    cases hu with
    | sl _ _ _ a cap b o f _ _ _ _ _ htag =>
     have htag:Value.slice a 0 cap=.slice none 0 0:=htag
     refine ⟨_,rfl,⟨[],⟨rfl,.inl ⟨htag,rfl⟩⟩,fun b hb=>?_,fun G2 H2 w3=>zlc []⟩,hold⟩
     have hb:(Value.slice a 0 cap).ownBlock=some b:=hb
     rw [htag] at hb
     cases hb
  obtain ⟨u,rfl,⟨xs,b1,b2,b3⟩,b4⟩:=hu
  obtain ⟨q1,q2,q3⟩:=zhn (w':=w2) (new:=g) (e:=e) hp (hfr g (Nat.le_refl _)) (by omega:0<1) b4 hE2.size hE2.os hE2.tape hE2.output b1 b2 (b3 G H w)
  have hsub:∀i z,H i=some z->(H.set g (.row e (zaY zs).length)) i=some z:=fun i z hi=>by
   rw [zab.set_ne _ _ (fun hi'=>by subst hi';rw [hfr _ (Nat.le_refl _)] at hi;cases hi)]
   exact hi
  obtain ⟨p1,p2⟩:=zgm hp q1 q2 hsub (fun i hi=>hi) (fun i d m hi=>⟨m,hi⟩) (fun i q p hi=>⟨p,hi⟩) (fun i cs hi=>.inl hi)
  have q4:VR (G.atσ g u 1) H w2 (.sl .fr 1 (zaY zs)) u:=by
   have q5:VR (G.atσ g u 1) H w2 (.sl .no 1 (zaY zs)) u:=(q3.le (.sl _ _ _)).back hsub (.sl _ _ _ (fun τ hτ=>by cases hτ) fun x hx c hc=>by
    obtain ⟨y,rfl⟩:=zdN zs x hx c hc
    exact .v _)
   refine q5.fr (len:=0) (cap:=0) ?_
   rcases b1.2 with ⟨h1,h2⟩ | ⟨g',cap,cur,h1,_,h3,h4,_,h5,_⟩
   ·exact .inl ⟨0,h1⟩
   ·have hge:w.heap.size<=g':=b2 g' (by rw [h1];rfl)
    refine .inr ⟨g',_,cap,cur,e,h1,⟨Nat.le_trans hp.lo hge,fun m=>⟨fun i cs hi e1=>?_,fun i d m' hi e1=>?_⟩⟩,h3,h4,by rw [h5];exact Nat.le_refl _⟩
    ·have:=hp.lt (.inl ⟨i,cs,hi,rfl⟩)
     have e2:G.φ i=g':=e1
     omega
    ·have hne:i≠g:=fun e2=>by subst e2;rw [hfr _ (Nat.le_refl _)] at hi;cases hi
     have e2:(G.σ i).ownBlock=some g':=by
      have:(G.atσ g u 1).σ i=G.σ i:=by simp [Gh.atσ,hne]
      rw [←this];exact e1
     have:=hp.lt (.inr (.inl ⟨i,d,m',hi,e2⟩))
     omega
  refine ⟨_,hrun,_,_,rfl,p1,⟨hfr,Nat.le_refl _,fun i _ h=>h⟩,p2,.tup _ _ rfl fun i c x hc hx=>?_⟩
  match i with
  | 0 =>
   simp at hc hx
   subst hc hx
   exact q4
  | 1 =>
   simp at hc hx
   subst hc hx
   exact .v _
  | i+2=>simp at hc
 rcases he with rfl | rfl
 ·exact main
 ·exact main
end Go.AM
