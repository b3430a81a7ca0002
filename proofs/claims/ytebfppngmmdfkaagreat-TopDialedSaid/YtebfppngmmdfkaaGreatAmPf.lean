/-
  The abstract machine: a function that writes in place into a late slice, and returns it.
  Conditions: none; it speaks of any program.
-/
import Derived.Test.YtebfppngmmdfkaaGreatAmPe
set_option linter.all false
namespace Go.AM
open Go Go.RowKit
inductive Od:AV->AV->Prop
 | v (x:Value):Od (.v x) (.v x)
 | agg (cs ds:List AV) (hl:cs.length=ds.length) (h:∀(i:Nat) (c d:AV),cs[i]?=some c->ds[i]?=some d->Od c d):Od (.agg cs) (.agg ds)
 | sl (k:Nat) (es:List (List AV)) (hk:0<k) (h:∀e,e∈es->∀c,c∈e->Flat c):Od (.sl .no k es) (.sl .od k es)
theorem VR.od {G:Gh} {H:zab} {w:World} {a a':AV} {x:Value} (h:VR G H w a x) (ho:Od a a'):VR { G with lo:=w.heap.size } H w a' x:=by
 induction ho generalizing x with
 | v y=>cases h;exact .v _
 | agg cs ds hl _ ih =>
  cases h with
  | agg _ vs hl' h1 h' =>
   refine .agg ds vs (by omega) h1 fun i d x hd hx=>?_
   have hi:i<cs.length:=by have:=(List.getElem?_eq_some_iff.1 hd).1;omega
   exact ih i cs[i] d (List.getElem?_eq_getElem hi) hd (h' i cs[i] x (List.getElem?_eq_getElem hi) hx)
 | sl k es hk hfl =>
  cases h with
  | sl _ _ _ a cap b o f hcap hs ha hc hv ht =>
   refine .sl .od k es a cap b o f hcap hs (fun hne=>ha hne) hc (fun i j e c hi hj=>zmB (hfl e (List.mem_of_getElem? hi) c (List.mem_of_getElem? hj)) (hv i j e c hi hj)) ?_
   intro hl b' o' p n c hx
   have hne:es≠[]:=List.length_pos_iff.1 hl
   obtain ⟨_,ha1,_⟩:=ha hne
   rw [ha1] at hx
   injection hx with hx
   injection hx with hx
   injection hx with hx
   subst hx
   obtain ⟨e,es',rfl⟩:∃e es',es=e::es':=by cases es with | nil=>exact absurd rfl hne | cons e es'=>exact ⟨e,es',rfl⟩
   have he:e.length=k:=hs e (by simp)
   exact zfB (hc 0 0 e e[0] rfl (List.getElem?_eq_getElem (by omega))).1
def zoF (P:Program) (N:Nat) (rs:List ResultVar) (zs:List Int) (y:Value):Exit->Fr->zab->Nat->Prop:=fun ex fr H _ =>
 (ex=.normal\/ex=.ret)/\((∃j,zjb P N fr H rs=some (.tup [.ms j 0 1 zs.length zs.length,.v y])/\H j=some (.cells (zaY zs).flatten))\/(zs=[]/\∃t k,zjb P N fr H rs=some (.tup [.sl t k [],.v y]))\/(zs=[]/\zjb P N fr H rs=some (.tup [.v (.slice none 0 0),.v y])))
theorem znv {P : Program} {N : Nat} (hm : P.follows .mixedOrders = true) {f : FuncId} {fn : Func} {c : Code} (hf : P.funcs[f]? = some fn) (hb : fn.body = some c) (hname : fn.name ≠ "runtime.NumGoroutine") (hN : fn.ntmps = N)
  {as bs:List AV} (hlen:bs.length<=N) (hpa:∀a,a∈as->Pure a) (hab:as.length=bs.length) (hod:∀(i:Nat) (a b:AV),as[i]?=some a->bs[i]?=some b->Od a b) {zs:List Int} {y:Value}
  (h:∀(G0:Gh) (w0:World) (C:Exit->Act->World->Prop),G0.lo=w0.heap.size->zuq N G0 w0 (zoF P N fn.results.toList zs y) C->Snd P N G0 w0 C c (zhc bs) E0 0):zav P f as (.tup [.sl .no 1 (zaY zs),.v y]):=by
 intro H g hfr
 refine ⟨⟨fn,c,hf,hb,hname⟩,fun G w vs hp ha=>?_⟩
 have ha0:=zuX hpa ha
 have ha1:VRs { G with lo:=w.heap.size } E0 w bs vs:=⟨by rw [ha0.1,hab],fun i b x hi hx=>by
  have hl:i<as.length:=by have:=(List.getElem?_eq_some_iff.1 hi).1;omega
  exact (ha0.2 i as[i] x (List.getElem?_eq_getElem hl) hx).od (hod i as[i] b (List.getElem?_eq_getElem hl) hi)⟩
 refine callsIn_wide.1 (callsIn_of_wp_marks (n:=0) (F:=Fence.wide) hf hb trivial (h { G with lo:=w.heap.size } w _ rfl (fun ex fr H1 g1 a' w' hq S' _=>?_) _ _ (Nat.le_refl _) (zjk hN hlen (hp0 _ w (Nat.le_refl _)) ha1) (fun _ _=>rfl)) rfl)
 obtain ⟨he,hq⟩:=hq
 obtain ⟨G1,hp1,hE,⟨Ds,hd1,hd2,hd3⟩,hsz,hv⟩:=S'
 have hx:∃x,zjb P N fr H1 fn.results.toList=some x:=by
  rcases hq with ⟨j,hx,_⟩ | ⟨_,t,k,hx⟩ | ⟨_,hx⟩
  ·exact ⟨_,hx⟩
  ·exact ⟨_,hx⟩
  ·exact ⟨_,hx⟩
 obtain ⟨x,hx⟩:=hx
 have hlr:(zaY zs).length=zs.length:=by simp [zaY]
 have main:LeavesInM Fence.wide 0 P fn a'.tmps (fun en w'=>∃v G',en=.returned v/\Hp G' H w'/\(zbB H g/\g<=g/\∀i,i<g->H i=none->H i=none)/\Ext G H w G' H w'/\VR G' H w' (.tup [.sl .no 1 (zaY zs),.v y]) v) a'.defers .returning w':=by
  rw [hd1]
  refine ze4 Ds w' hp1 hE hd2 hd3 fun w2 hp2 hE2 hev=>?_
  obtain ⟨v,hrun,hvr⟩:=zgG (P:=P) (fn:=fn) hp2 (fun t ht=>(hv t ht).evo hev) hx
  have gw:Grw w w2:=⟨fun b hb=>hE2.block b hb fun h=>znn h,hE2.size,hE2.os,hE2.tape,hE2.output⟩
  have q:=Gro.start hp gw
  have tup:∀s:AV,VR G1 H1 w2 (.tup [s,.v y]) v->∃u,v=.tuple #[u,y]/\VR G1 H1 w2 s u:=fun s hs=>by
   cases hs with
   | tup _ us hl hc =>
    obtain ⟨l⟩:=us
    match l,hl with
    | [u,z],_ =>
     have h1:=hc 0 s u rfl rfl
     have h2:=hc 1 (.v y) z rfl rfl
     cases h2
     exact ⟨u,rfl,h1⟩
  have hu:∃u,v=.tuple #[u,y]/\VR G H w2 (.sl .no 1 (zaY zs)) u:=by
   have emp:∀a cap,VR G H w2 (.sl .no 1 (zaY [])) (.slice a 0 cap):=fun a cap=>.sl .no 1 [] a cap 0 0 (fun _ _=>undef) (by simp) (fun e h=>by simp at h) (fun h=>absurd rfl h) (fun i j e c h=>by simp at h) (fun i j e c h=>by simp at h) trivial
   rcases hq with ⟨j,hxj,hj⟩ | ⟨hz,t,k,hxj⟩ | ⟨hz,hxj⟩
   ·rw [hx] at hxj
    injection hxj with hxj
    subst hxj
    obtain ⟨u,rfl,hu⟩:=tup _ hvr
    refine ⟨u,rfl,?_⟩
    cases hu with
    | ms _ _ _ _ _ a cap h1 h2 h3 h4 h5 =>
     by_cases hz:zs=[]
     ·subst hz
      exact emp a cap
     have hpos:0<zs.length:=List.length_pos_iff.2 hz
     have hcap:0<cap:=by omega
     have ha2:=h2 hcap
     subst ha2
     obtain ⟨us,ty,k1,k2,k3,k4⟩:=hp2.cells j _ hj
     rw [ziS] at k2 k3 k4
     rw [List.length_map] at k2 k3
     have hge:w.heap.size<=G1.φ j:=by
      rcases hE2.im _ (.inl ⟨j,_,hj,rfl⟩) with h | h
      ·exact (znn h).elim
      ·exact h
     have hcell:∀i,i<zs.length->us[i]?=some (.int .i64 (zs.getD i 0)):=fun i hi=>by
      have hiu:i<us.size:=by omega
      have h6:=k4 i (.v (.int .i64 (zs.getD i 0))) us[i] (by rw [List.getElem?_map,List.getD_eq_getElem?_getD,List.getElem?_eq_getElem hi];rfl) (Array.getElem?_eq_getElem hiu)
      rw [Array.getElem?_eq_getElem hiu,zkP h6]
     have:=VR.sl (G:=G) (H:=H) (w:=w2) .no 1 (zaY zs) (some ⟨G1.φ j,0,none⟩) cap (G1.φ j) 0 (fun i _=>.int .i64 (zs.getD i 0)) (by omega) (fun e he=>by obtain ⟨z,_,rfl⟩:=List.mem_map.1 he;rfl)
      (fun _=>⟨by omega,rfl,zjc.of_not_im (fun hi=>by have:=hp.lt hi;omega) _⟩)
      (fun i j' e c hi hj'=>by
       have hil:i<zs.length:=by rw [←hlr];exact (List.getElem?_eq_some_iff.1 hi).1
       have he:e.length=1:=by obtain ⟨z,_,rfl⟩:=List.mem_map.1 (List.mem_of_getElem? hi);rfl
       have hj0:j'=0:=by have:=(List.getElem?_eq_some_iff.1 hj').1;omega
       subst hj0
       refine ⟨?_,rfl⟩
       unfold World.cell?
       simp only [k1,Option.isSome_none,Bool.false_eq_true,if_false]
       rw [show 0+i*1+0=i by omega]
       exact hcell i hil)
      (fun i j' e c hi hj'=>by
       unfold zaY at hi
       rw [List.getElem?_map] at hi
       obtain ⟨z,hz',rfl⟩:=Option.map_eq_some_iff.1 hi
       have hj0:j'=0:=by have:=(List.getElem?_eq_some_iff.1 hj').1;simp at this;omega
       subst hj0
       simp at hj'
       subst hj'
       rw [List.getD_eq_getElem?_getD,hz']
       exact .v _) trivial
     rw [hlr] at this
     exact this
   ·rw [hx] at hxj
    injection hxj with hxj
    subst hxj
    obtain ⟨u,rfl,hu⟩:=tup _ hvr
    subst hz
    refine ⟨u,rfl,?_⟩
    cases hu with
    | sl _ _ _ a cap b o f _ _ _ _ _ _=>exact emp a cap
   ·rw [hx] at hxj
    injection hxj with hxj
    subst hxj
    obtain ⟨u,rfl,hu⟩:=tup _ hvr
    subst hz
    cases hu
    exact ⟨_,rfl,emp none 0⟩
  obtain ⟨u,rfl,hu⟩:=hu
  refine ⟨_,hrun,_,G,rfl,q.hp,⟨hfr,Nat.le_refl _,fun i _ h=>h⟩,q.ext gw,.tup _ _ rfl fun i c x hc hx=>?_⟩
  match i with
  | 0 =>
   simp at hc hx
   subst hc hx
   exact hu
  | 1 =>
   simp at hc hx
   subst hc hx
   exact .v _
  | i+2=>simp at hc
 rcases he with rfl | rfl
 ·exact main
 ·exact main
theorem zoG {P : Program} {N : Nat} (hm : P.follows .mixedOrders = true) {f : FuncId} {fn : Func} {c : Code} (hf : P.funcs[f]? = some fn) (hb : fn.body = some c) (hname : fn.name ≠ "runtime.NumGoroutine") (hN : fn.ntmps = N)
  {as:List AV} (hlen:as.length<=N) (hpa:∀a,a∈as->Pure a) {e:TypeId} {zs:List Int} {y:Value}
  (h:∀H g,zbB H g->wpA P N c (zpk P N fn.results.toList e zs y) (zhc as) H g):zav P f as (.tup [.sl .fr 1 (zaY zs),.v y]) :=
 znu hm hf hb hname hN hlen hpa fun G0 w0 C hC a w _ S hfr=>zhy hm c none 0 G0 E0 w0 _ _ E0 0 a w C (.inl rfl) (h E0 0 fun _ _=>rfl) S hfr hC
abbrev cLf {α:Type} (k:Nat) (f:α->List AV) (xs:List α):List AV:=[.sl .fr k (xs.map f)]
theorem znw {P:Program} {N:Nat} {rs:List ResultVar} {e:TypeId} {zs:List Int} {y:Value} {ex:Exit} {l:List (Nat×AV)} {O:Nat->Prop} {H0 H:zab} {L:BL} {b g j:Nat} (n:Nat) (he:ex=.normal\/ex=.ret) (hr:zjb P N (Fr.of l) H rs=some (.tup [.sl (.id j) 1 (zs.map cI),.v y])) (hS:St O H0 L H b)
  (hn:L[n]?=some (j,.row e zs.length)):zpk P N rs e zs y ex (Fr.of l) H g:=⟨he,.inl ⟨j,hr,hS.get hn⟩⟩
end Go.AM
