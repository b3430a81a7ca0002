/-
  The abstract machine: a slice that the function built itself is sorted in place, and returned.
  Conditions: none; it speaks of any program.
-/
import Derived.Test.YtebfppngmmdfkaaGreatAmZ
import Derived.Sort.OwnSortedInts
set_option linter.all false
namespace Go.AM
open Go Go.RowKit
def Snd (P:Program) (N:Nat) (G0:Gh) (w0:World) (C:Exit->Act->World->Prop) (c:Code) (fr:Fr) (H:zab) (g:Nat):Prop :=
 ∀a w,G0.lo<=w0.heap.size->Sim G0 E0 w0 N fr H a w->zbB H g->c.wpIn (FR none) 0 P C a w
def zuq (N:Nat) (G0:Gh) (w0:World) (Q:Exit->Fr->zab->Nat->Prop) (C:Exit->Act->World->Prop):Prop :=
 ∀e fr' H' g' a' w',Q e fr' H' g'->Sim G0 E0 w0 N fr' H' a' w'->zbB H' g'->C e a' w'
section
variable {P:Program} {N:Nat} {G0:Gh} {w0:World} {C:Exit->Act->World->Prop} {Q:Exit->Fr->zab->Nat->Prop}
theorem ztO (hm:P.follows .mixedOrders=true) {c:Code} {l:List (Nat×AV)} {H:zab} {g:Nat} (hC:zuq N G0 w0 Q C) (h:wpA P N c Q (Fr.of l) H g):Snd P N G0 w0 C c (Fr.of l) H g :=
 fun a w _ S hf=>zhy hm c none 0 G0 E0 w0 Q _ H g a w C (.inl rfl) h S hf hC
theorem zhq (hm:P.follows .mixedOrders=true) {x y:Code} {l:List (Nat×AV)} {H:zab} {g:Nat} (hC:zuq N G0 w0 Q C)
  (h:wpA P N x (Exit.thenA (fun fr' H' g'=>∃fr0 H1 g0,zkj fr' H' g' fr0 H1 g0/\Snd P N G0 w0 C y fr0 H1 g0) Q) (Fr.of l) H g):Snd P N G0 w0 C (.seq x y) (Fr.of l) H g:=fun a w hlo S hf=>by
 refine wpIn_seq (zhy hm x none 0 G0 E0 w0 _ _ H g a w _ (.inl rfl) h S hf fun e fr' H' g' a' w' hq S' hf'=>?_)
 cases e with
 | normal =>
  obtain ⟨fr0,H1,g0,hd,hs⟩:=hq
  obtain ⟨S1,hf1⟩:=S'.down hd hf'
  exact hs a' w' hlo S1 hf1
 | exit id=>exact hC _ _ _ _ _ _ hq S' hf'
 | goto l=>exact hC _ _ _ _ _ _ hq S' hf'
 | ret=>exact hC _ _ _ _ _ _ hq S' hf'
 | panic ch=>exact hC _ _ _ _ _ _ hq S' hf'
 | outgrown=>exact hC _ _ _ _ _ _ hq S' hf'
theorem zgJ {y:Code} {l l':List (Nat×AV)} {H:zab} {g:Nat} (hle:FLe l l') (h:Snd P N G0 w0 C y (Fr.of l') H g) :
  Exit.thenA (fun fr' H' g'=>∃fr0 H1 g0,zkj fr' H' g' fr0 H1 g0/\Snd P N G0 w0 C y fr0 H1 g0) Q .normal (Fr.of l) H g:=⟨_,H,g,.le hle.le H g,h⟩
end
def zaY (zs:List Int):List (List AV):=zs.map fun z=>[.v (.int .i64 z)]
theorem zlc {G:Gh} {H:zab} {w:World} (zs:List Int):RowVR G H w 1 (zaY zs) (zs.map (Value.int .i64)):=by
 refine ⟨by simp [zaY],fun e he=>?_,fun x hx=>?_,fun i j e c x hi hj hx=>?_⟩
 ·obtain ⟨z,_,rfl⟩:=List.mem_map.1 he;rfl
 ·obtain ⟨z,_,rfl⟩:=List.mem_map.1 hx;rfl
 ·unfold zaY at hi
  rw [List.getElem?_map] at hi
  cases hz:zs[i]? with
  | none=>rw [hz] at hi;cases hi
  | some z =>
   rw [hz] at hi
   injection hi with hi
   subst hi
   cases j with
   | zero =>
    simp at hj
    subst hj
    rw [Nat.mul_one,Nat.add_zero,List.getElem?_map,hz] at hx
    injection hx with hx
    subst hx
    exact .v _
   | succ j=>simp at hj
theorem znp {G:Gh} {H:zab} {w:World} {zs:List Int} {xs:List Value} (h:RowVR G H w 1 (zaY zs) xs):xs=zs.map (Value.int .i64):=by
 have hl:=h.len
 simp only [zaY,List.length_map,Nat.mul_one] at hl
 apply List.ext_getElem (by simp [hl])
 intro i h1 h2
 have h3:i<zs.length:=by simpa using h2
 have:=h.vr i 0 [.v (.int .i64 zs[i])] (.v (.int .i64 zs[i])) xs[i] (by simp [zaY,h3]) rfl (by simp [h1])
 simp only [List.getElem_map]
 exact zkP this
theorem zdN (zs:List Int):∀e,e∈zaY zs->∀c,c∈e->Flat c:=fun e he c hc=>by
 obtain ⟨z,_,rfl⟩:=List.mem_map.1 he
 simp at hc
 subst hc
 exact ⟨_,rfl⟩
structure Built (G0:Gh) (w0:World) (e:TypeId) (zs:List Int) (u:Value) (ds:List Deferred) (w:World):Prop where
 own:w.ownsRow 0 e 1 u zs.length (zs.map (Value.int .i64))
 new:∀b,u.ownBlock=some b->w0.heap.size<=b
 old:∀b,b<w0.heap.size->w.heap[b]?=w0.heap[b]?
 size:w0.heap.size<=w.heap.size
 os:w.os=w0.os
 tape:w.tape=w0.tape
 output:w.output=w0.output
 marks:∃Ds:List Nat,ds=Ds.map (fun D=>{ target:=.collected D,args:=#[] })/\Ds.Nodup/\∀D,D∈Ds->w0.heap.size<=D/\w.heap[D]?=some (.deferred (some []))
 lo0:G0.lo<=w0.heap.size
theorem znq {N:Nat} {G0:Gh} {w0:World} {fr:Fr} {H:zab} {a:Act} {w:World} {e:TypeId} {zs:List Int} {t j:Nat} (S:Sim G0 E0 w0 N fr H a w) (ht:t<N) (hv:fr t=.sl (.id j) 1 (zaY zs)) (hj:H j=some (.row e zs.length)) (hlo:G0.lo<=w0.heap.size) :
  Built G0 w0 e zs (a.tmps.getD t undef) a.defers w:=by
 obtain ⟨G1,hp1,hE,⟨Ds,hd1,hd2,hd3⟩,_,hvs⟩:=S
 have hlen:(zaY zs).length=zs.length:=by simp [zaY]
 have hsub:∀i y,(E0.set j (.row e (zaY zs).length)) i=some y->H i=some y:=fun i y hi=>by
  rcases zab.set_cases hi with ⟨rfl,hy⟩ | ⟨_,hy⟩
  ·rw [hj,hy,hlen]
  ·cases hy
 obtain ⟨q1,q2⟩:=zgm (hp0 G0 w0 hlo) hp1 hE hsub (fun i hi=>by rcases hi with ⟨_,hi⟩ | hi<;>cases hi) (fun i d m hi=>by cases hi) (fun i q p hi=>by cases hi) (fun i cs hi=>by
  rcases zab.set_cases hi with ⟨_,hx⟩ | ⟨_,hx⟩
  ·cases hx
  ·cases hx)
 have h1:=hvs t ht
 rw [hv] at h1
 have h2:=h1.back hsub (.sl _ _ _ (fun τ hτ=>by injection hτ with hτ;subst hτ;exact ⟨_,_,zab.set_same _ _ _⟩) fun x hx c hc=>by
  obtain ⟨y,rfl⟩:=zdN zs x hx c hc
  exact .v _)
 obtain ⟨_,xs,b1,b2,b3,b4⟩:=zjn q1 q2 h2 (zdN zs)
 have:=znp (b3 G0 E0 w0)
 subst this
 rw [hlen] at b1
 exact ⟨b1,b2,b4,hE.size,hE.os,hE.tape,hE.output,⟨Ds,hd1,hd2,fun D hD=>⟨(hd3 D hD).1,(hd3 D hD).2.1⟩⟩,hlo⟩
theorem znr {N:Nat} {G0:Gh} {w0:World} {a:Act} {w:World} {e:TypeId} {zs:List Int} {t j:Nat} (hB:Built G0 w0 e zs (a.tmps.getD t undef) a.defers w) (hs:a.tmps.size=N) :
  Sim G0 E0 w0 N (Fr.of [(t,.sl (.id j) 1 (zaY zs))]) (E0.set j (.row e zs.length)) a w:=by
 have hlen:(zaY zs).length=zs.length:=by simp [zaY]
 obtain ⟨q1,q2,q3⟩:=zhn (H:=E0) (es:=zaY zs) (new:=j) (e:=e) (hp0 G0 w0 hB.lo0) rfl (by omega:0<1) hB.old hB.size hB.os hB.tape hB.output (by rw [hlen];exact hB.own) hB.new (zlc zs)
 rw [hlen] at q1 q2 q3
 refine ⟨_,q1,q2,?_,hs,fun t' ht'=>?_⟩
 ·obtain ⟨Ds,hd1,hd2,hd3⟩:=hB.marks
  refine ⟨Ds,hd1,hd2,fun D hD=>⟨(hd3 D hD).1,(hd3 D hD).2,fun hi=>?_⟩⟩
  rcases hi with ⟨i,cs,hi,_⟩ | ⟨i,d,n,hi,hb⟩ | ⟨i,k,p,hi,_⟩
  ·rcases zab.set_cases hi with ⟨_,h⟩ | ⟨_,h⟩<;>cases h
  ·rcases zab.set_cases hi with ⟨rfl,_⟩ | ⟨_,h⟩
   ·have hσ:(G0.atσ i (a.tmps.getD t undef) 1).σ i=a.tmps.getD t undef:=by simp [Gh.atσ]
    rw [hσ] at hb
    rcases hB.own.2 with ⟨h1,_⟩ | ⟨g,cap,cur,h1,_,h3,_⟩
    ·rw [h1] at hb;cases hb
    ·rw [h1] at hb
     injection hb with hb
     have hb:g=D:=hb
     subst hb
     rw [(hd3 _ hD).2] at h3
     cases h3
   ·cases h
  ·rcases zab.set_cases hi with ⟨_,h⟩ | ⟨_,h⟩<;>cases h
 ·show VR _ _ _ (lk _ t') _
  by_cases e:t'=t
  ·subst e
   rw [zi2]
   exact q3
  ·rw [zmu e]
   exact .any _
def zrs (P:Program) (f:FuncId) (e:TypeId) (zs ts:List Int):Prop :=
 zsm P f/\∀(u:Value) (w:World),w.ownsRow 0 e 1 u zs.length (zs.map (Value.int .i64)) ->
  Calls P f #[u] w fun en w'=>en=.returned (.tuple #[])/\w'.ownsRow 0 e 1 u ts.length (ts.map (Value.int .i64))/\w'.os=w.os/\w'.tape=w.tape/\w'.output=w.output/\w.heap.size<=w'.heap.size/\∀k,k<w.heap.size->u.ownBlock≠some k->w'.heap[k]?=w.heap[k]?
theorem Built.next {G0:Gh} {w0 w w':World} {e:TypeId} {zs ts:List Int} {u:Value} {ds:List Deferred} (h:Built G0 w0 e zs u ds w) (h1:w'.ownsRow 0 e 1 u ts.length (ts.map (Value.int .i64))) (h2:w'.os=w.os) (h3:w'.tape=w.tape) (h4:w'.output=w.output) (h5:w.heap.size<=w'.heap.size)
  (h6:∀k,k<w.heap.size->u.ownBlock≠some k->w'.heap[k]?=w.heap[k]?):Built G0 w0 e ts u ds w':=by
 refine ⟨h1,h.new,fun b hb=>?_,Nat.le_trans h.size h5,h2.trans h.os,h3.trans h.tape,h4.trans h.output,?_,h.lo0⟩
 ·rw [h6 b (Nat.lt_of_lt_of_le hb h.size) (fun hu=>by have:=h.new b hu;omega)]
  exact h.old b hb
 ·obtain ⟨Ds,d1,d2,d3⟩:=h.marks
  refine ⟨Ds,d1,d2,fun D hD=>⟨(d3 D hD).1,?_⟩⟩
  have hd:=(d3 D hD).2
  rw [h6 D (Array.getElem?_eq_some_iff.1 hd).1 (fun hu=>?_)]
  ·exact hd
  ·rcases h.own.2 with ⟨q1,_⟩ | ⟨g,cap,cur,q1,_,q3,_⟩
   ·rw [q1] at hu;cases hu
   ·rw [q1] at hu
    injection hu with hu
    have hu:g=D:=hu
    subst hu
    rw [hd] at q3
    cases q3
section
variable {P:Program} {N:Nat} {G0:Gh} {w0:World} {C:Exit->Act->World->Prop}
theorem zvs {o:Oper} {a:Act} {w:World} {K:Act->World->Prop} {Q:Exit->Act->World->Prop} {v:Value} (hop:∀c,o.op≠.defer c) (hr:(execOp a.eval o).run P w=.ok (.value v) w) (h:K (a.put o.dst v) w):o.wpIn (FR none) 0 P a w K Q :=
 ⟨fun _ _=>trivial,by rw [Oper.semAt_eq _ _ _ hop,hr];exact h⟩
theorem zur {o:Oper} {a:Act} {w:World} {K:Act->World->Prop} {Q:Exit->Act->World->Prop} {f:FuncId} {args:Array Operand} {ts:Array TypeId} (hop:o.op=.call { callee:=.value (.func f),args:=args,argTypes:=ts }) (hg:zsm P f)
  (hc:Calls P f (args.map a.eval) w fun en w'=>∃v,en=.returned v/\K (a.put o.dst v) w'):o.wpIn (FR none) 0 P a w K Q:=by
 obtain ⟨fn,code,hfun,hbody,hname⟩:=hg
 refine ⟨fun _ _=>trivial,?_⟩
 rw [Oper.semAt_eq _ _ _ (fun c hc=>by rw [hop] at hc;cases hc)]
 have e2:a.eval (.func f)=.func (.func f) #[] #[]:=rfl
 have hrun:(execOp a.eval o).run P w=(callFunc f (args.map a.eval)).run P w:=by
  simp only [execOp,hop,resolve,e2,Deferred.ofValue,Sem.run_bind,Sem.run_pure,Result.andThen_ok,invoke]
  simp
 have hcall:(callFunc f (args.map a.eval)).run P w=.ok (.enter f (args.map a.eval)) w:=by
  simp [callFunc,hfun,hname,hbody]
 rw [hrun,hcall,Oper.uponIn_enter]
 refine ⟨fun h=>by simp [FR,Fence.wide] at h,zmq (hc.mono fun en w' ⟨v,he,hk⟩=>?_)⟩
 subst he
 exact hk
theorem zsZ {id d d2 t j f:Nat} {e ty ty':TypeId} {pos pos':String} {after after':Array Edge} {args:Array TypeId} {rest:Code} {l:List (Nat×AV)} {H:zab} {g:Nat} {zs ts:List Int} (hd:d<N) (ht:t<N) (hd2:d2<N) (hdt:d≠t) (hd2t:d2≠t)
  (hv:lk l t=.sl (.id j) 1 (zaY zs)) (hj:H j=some (.row e zs.length)) (hf:zrs P f e zs ts)
  (h:Snd P N G0 w0 C rest (Fr.of [(t,.sl (.id j) 1 (zaY ts))]) (E0.set j (.row e ts.length)) (j+1)) :
  Snd P N G0 w0 C (.seq (.region id #[⟨some d,.move (.tmp t),ty,pos,after,none⟩,⟨some d2,.call { callee:=.value (.func f),args:=#[.tmp d],argTypes:=args },ty',pos',after',none⟩] false) rest) (Fr.of l) H g:=by
 intro a w hlo S hfr
 have hB:=znq S ht hv hj hlo
 have hs:a.tmps.size=N:=by obtain ⟨_,_,_,_,hs,_⟩:=S;exact hs
 refine wpIn_seq (wpIn_region ?_)
 have hu:(a.put (some d) (a.tmps.getD t undef)).tmps.getD d undef=a.tmps.getD t undef:=by
  simp only [Act.put,Array.getD_eq_getD_getElem?]
  rw [Array.getElem?_setIfInBounds_self_of_lt (by omega)]
  rfl
 have hu':(a.put (some d) (a.tmps.getD t undef)).tmps.getD t undef=a.tmps.getD t undef:=by
  simp only [Act.put,Array.getD_eq_getD_getElem?]
  rw [Array.getElem?_setIfInBounds_ne hdt]
 show wpOpsIn (FR none) 0 P _ _ [0,1] a w
 rw [wpOpsIn_cons]
 unfold wpOpIn
 rw [show ∀(x y:Oper),(#[x,y]:Array Oper)[0]?=some x from fun _ _=>rfl]
 simp only [Region.wanted,if_true]
 refine zvs (v:=a.tmps.getD t undef) (fun c hc=>by cases hc) rfl ?_
 rw [wpOpsIn_cons]
 unfold wpOpIn
 rw [show ∀(x y:Oper),(#[x,y]:Array Oper)[1]?=some y from fun _ _=>rfl]
 simp only [Region.wanted,if_true]
 refine zur rfl hf.1 ?_
 have e3:(#[Operand.tmp d]).map (a.put (some d) (a.tmps.getD t undef)).eval=#[a.tmps.getD t undef]:=by
  simp only [List.map_toArray,List.map_cons,List.map_nil]
  exact congrArg (fun x=>#[x]) hu
 rw [e3]
 refine (hf.2 _ w hB.own).mono fun en w' ⟨he,k1,k2,k3,k4,k5,k6⟩=>⟨_,he,?_⟩
 have hB':=hB.next k1 k2 k3 k4 k5 k6
 refine h _ _ hlo (znr ?_ ?_) ?_
 ·have hu2:((a.put (some d) (a.tmps.getD t undef)).put (some d2) (.tuple #[])).tmps.getD t undef=a.tmps.getD t undef:=by
   refine Eq.trans ?_ hu'
   show ((a.put (some d) (a.tmps.getD t undef)).tmps.setIfInBounds d2 (.tuple #[])).getD t undef=(a.put (some d) (a.tmps.getD t undef)).tmps.getD t undef
   rw [Array.getD_eq_getD_getElem?,Array.getElem?_setIfInBounds_ne hd2t,←Array.getD_eq_getD_getElem?]
  show Built G0 w0 e ts (((a.put (some d) (a.tmps.getD t undef)).put (some d2) (.tuple #[])).tmps.getD t undef) a.defers w'
  rw [hu2]
  exact hB'
 ·simp [Act.put,hs]
 ·intro i hi
  rw [zab.set_ne _ _ (by omega)]
  rfl
end
def zpk (P:Program) (N:Nat) (rs:List ResultVar) (e:TypeId) (zs:List Int) (y:Value):Exit->Fr->zab->Nat->Prop:=fun ex fr H _ =>
 (ex=.normal\/ex=.ret)/\((∃j,zjb P N fr H rs=some (.tup [.sl (.id j) 1 (zaY zs),.v y])/\H j=some (.row e zs.length))\/(zs=[]/\zjb P N fr H rs=some (.tup [.sl .nil 0 [],.v y])))
theorem zoD {P : Program} {N : Nat} (hm : P.follows .mixedOrders = true) {f : FuncId} {fn : Func} {c : Code} (hf : P.funcs[f]? = some fn) (hb : fn.body = some c) (hname : fn.name ≠ "runtime.NumGoroutine") (hN : fn.ntmps = N)
  {as:List AV} (hlen:as.length<=N) (hpa:∀a,a∈as->Pure a) {e:TypeId} {zs:List Int} {y:Value}
  (h:∀(G0:Gh) (w0:World) (C:Exit->Act->World->Prop),zuq N G0 w0 (zpk P N fn.results.toList e zs y) C->Snd P N G0 w0 C c (zhc as) E0 0):zav P f as (.tup [.sl .no 1 (zaY zs),.v y]):=by
 intro H g hfr
 refine ⟨⟨fn,c,hf,hb,hname⟩,fun G w vs hp ha=>?_⟩
 have ha0:=zuX hpa ha
 refine callsIn_wide.1 (callsIn_of_wp_marks (n:=0) (F:=Fence.wide) hf hb trivial (h G w _ (fun ex fr H1 g1 a' w' hq S' _=>?_) _ _ hp.lo (zjk hN hlen (hp0 G w hp.lo) ha0) (fun _ _=>rfl)) rfl)
 obtain ⟨he,hq⟩:=hq
 obtain ⟨G1,hp1,hE,⟨Ds,hd1,hd2,hd3⟩,hsz,hv⟩:=S'
 have hx:∃x,zjb P N fr H1 fn.results.toList=some x:=by
  rcases hq with ⟨j,hx,_⟩ | ⟨_,hx⟩
  ·exact ⟨_,hx⟩
  ·exact ⟨_,hx⟩
 obtain ⟨x,hx⟩:=hx
 have hlr:(zaY zs).length=zs.length:=by simp [zaY]
 have main:LeavesInM Fence.wide 0 P fn a'.tmps (fun en w'=>∃v G',en=.returned v/\Hp G' H w'/\(zbB H g/\g<=g/\∀i,i<g->H i=none->H i=none)/\Ext G H w G' H w'/\VR G' H w' (.tup [.sl .no 1 (zaY zs),.v y]) v) a'.defers .returning w':=by
  rw [hd1]
  refine ze4 Ds w' hp1 hE hd2 hd3 fun w2 hp2 hE2 hev=>?_
  obtain ⟨v,hrun,hvr⟩:=zgG (P:=P) (fn:=fn) hp2 (fun t ht=>(hv t ht).evo hev) hx
  have hu:∃u,v=.tuple #[u,y]/\(∃xs,w2.ownsRow 0 e 1 u (zaY zs).length xs/\(∀b,u.ownBlock=some b->w.heap.size<=b)/\(∀(G2:Gh) (H2:zab) (w3:World),RowVR G2 H2 w3 1 (zaY zs) xs))/\∀b,b<w.heap.size->w2.heap[b]?=w.heap[b]?:=by
   have hold:∀b,b<w.heap.size->w2.heap[b]?=w.heap[b]?:=fun b hb=>hE2.block b hb fun h=>znn h
   have tup:∀s:AV,VR G1 H1 w2 (.tup [s,.v y]) v->∃u,v=.tuple #[u,y]/\VR G1 H1 w2 s u:=fun s hs=>by
    cases hs with
    | tup _ us hl hc =>
     obtain ⟨l⟩:=us
     match l,hl with
     | [u,z],_ =>
      have h1:=hc 0 s u rfl rfl
      have h2:=hc 1 (.v y) z rfl rfl
      cases h2
      exact ⟨u,rfl,h1⟩
   rcases hq with ⟨j,hxj,hj⟩ | ⟨hz,hxj⟩
   ·rw [hx] at hxj
    injection hxj with hxj
    subst hxj
    obtain ⟨u,rfl,hu⟩:=tup _ hvr
    have hsub:∀i z,(E0.set j (.row e (zaY zs).length)) i=some z->H1 i=some z:=fun i z hi=>by
     rcases zab.set_cases hi with ⟨rfl,hy⟩ | ⟨_,hy⟩
     ·rw [hj,hy,hlr]
     ·cases hy
    obtain ⟨q1,q2⟩:=zgm (hp0 G w hp.lo) hp2 hE2 hsub (fun i hi=>by rcases hi with ⟨_,hi⟩ | hi<;>cases hi) (fun i d m hi=>by cases hi) (fun i q p hi=>by cases hi) (fun i cs hi=>by
     rcases zab.set_cases hi with ⟨_,hx⟩ | ⟨_,hx⟩
     ·cases hx
     ·cases hx)
    have h2:=hu.back hsub (.sl _ _ _ (fun τ hτ=>by injection hτ with hτ;subst hτ;exact ⟨_,_,zab.set_same _ _ _⟩) fun x hx c hc=>by
     obtain ⟨y,rfl⟩:=zdN zs x hx c hc
     exact .v _)
    obtain ⟨_,xs,b1,b2,b3,b4⟩:=zjn q1 q2 h2 (zdN zs)
    exact ⟨u,rfl,⟨xs,b1,b2,b3⟩,hold⟩
   ·rw [hx] at hxj
    injection hxj with hxj
    subst hxj
    obtain ⟨u,rfl,hu⟩:=tup _ hvr
    subst hz
    cases hu with
    | sl _ _ _ a cap b o f _ _ _ _ _ htag =>
     have htag:Value.slice a 0 cap=.slice none 0 0:=htag
     refine ⟨_,rfl,⟨[],⟨rfl,.inl ⟨htag,rfl⟩⟩,fun b hb=>?_,fun G2 H2 w3=>zlc []⟩,hold⟩
     have hb:(Value.slice a 0 cap).ownBlock=some b:=hb
     rw [htag] at hb
     cases hb
  obtain ⟨u,rfl,⟨xs,b1,b2,b3⟩,b4⟩:=hu
  obtain ⟨q1,q2,q3⟩:=zhn (w':=w2) (new:=g) (e:=e) hp (hfr g (Nat.le_refl _)) (by omega:0<1) b4 hE2.size hE2.os hE2.tape hE2.output b1 b2 (b3 G H w)
  have hsub:∀i z,H i=some z->(H.set g (.row e (zaY zs).length)) i=some z:=fun i z hi=>by
   rw [zab.set_ne _ _ (fun hi'=>by subst hi';rw [hfr _ (Nat.le_refl _)] at hi;cases hi)]
   exact hi
  obtain ⟨p1,p2⟩:=zgm hp q1 q2 hsub (fun i hi=>hi) (fun i d m hi=>⟨m,hi⟩) (fun i q p hi=>⟨p,hi⟩) (fun i cs hi=>.inl hi)
  have q4:VR (G.atσ g u 1) H w2 (.sl .no 1 (zaY zs)) u:=(q3.le (.sl _ _ _)).back hsub (.sl _ _ _ (fun τ hτ=>by cases hτ) fun x hx c hc=>by
   obtain ⟨y,rfl⟩:=zdN zs x hx c hc
   exact .v _)
  refine ⟨_,hrun,_,_,rfl,p1,⟨hfr,Nat.le_refl _,fun i _ h=>h⟩,p2,.tup _ _ rfl fun i c x hc hx=>?_⟩
  match i with
  | 0 =>
   simp at hc hx
   subst hc hx
   exact q4
  | 1 =>
   simp at hc hx
   subst hc hx
   exact .v _
  | i+2=>simp at hc
 rcases he with rfl | rfl
 ·exact main
 ·exact main
theorem zmE (x:Int):∀l:List Int,(ins x l).Perm (x::l)
 | []=>.refl _
 | y::l=>by
  unfold ins
  split
  ·exact .refl _
  ·exact ((zmE x l).cons y).trans (.swap x y l)
theorem zgA:∀l:List Int,(zi3 l).Perm l
 | []=>.refl _
 | x::l=>(zmE x (zi3 l)).trans ((zgA l).cons x)
theorem zl6 {x:Int}:∀{l:List Int},l.Pairwise (·<=·)->(ins x l).Pairwise (·<=·)
 | [],_=>by simp [ins]
 | y::l,h=>by
  have h':=List.pairwise_cons.1 h
  unfold ins
  split
  ·rename_i hxy
   exact List.pairwise_cons.2 ⟨fun z hz=>by
    rcases List.mem_cons.1 hz with rfl | hz
    ·exact hxy
    ·exact Int.le_trans hxy (h'.1 z hz),h⟩
  ·rename_i hxy
   refine List.pairwise_cons.2 ⟨fun z hz=>?_,zl6 h'.2⟩
   rcases List.mem_cons.1 ((zmE x l).mem_iff.1 hz) with rfl | hz
   ·omega
   ·exact h'.1 z hz
theorem zf2:∀l:List Int,(zi3 l).Pairwise (·<=·)
 | []=>.nil
 | x::l=>zl6 (zf2 l)
theorem zld {l l':List Int} (h:l.Perm l') (hl:l.Pairwise (·<=·)) (hl':l'.Pairwise (·<=·)):l=l':=by
 induction l generalizing l' with
 | nil=>exact (List.nil_perm.1 h).symm
 | cons x l ih =>
  cases l' with
  | nil=>exact absurd h.length_eq (by simp)
  | cons y l' =>
   have a:=List.pairwise_cons.1 hl
   have b:=List.pairwise_cons.1 hl'
   have hxy:x=y:=by
    have h1:x<=y:=by
     rcases List.mem_cons.1 (h.mem_iff.2 (List.mem_cons_self (a:=y) (l:=l'))) with e | e
     ·omega
     ·exact a.1 y e
    have h2:y<=x:=by
     rcases List.mem_cons.1 (h.mem_iff.1 (List.mem_cons_self (a:=x) (l:=l))) with e | e
     ·omega
     ·exact b.1 x e
    omega
   subst hxy
   rw [ih (List.Perm.cons_inv h) a.2 b.2]
theorem zmF {l l':List Int} (h:l.Perm l'):zi3 l=zi3 l':=zld ((zgA l).trans (h.trans (zgA l').symm)) (zf2 l) (zf2 l')
theorem zle (l:List Int):(l.mergeSort fun x y=>decide (x<=y))=zi3 l:=by
 refine zld ((List.mergeSort_perm l _).trans (zgA l).symm) ?_ (zf2 l)
 have:=List.pairwise_mergeSort (le:=fun x y:Int=>decide (x<=y)) (fun a b c h1 h2=>by simp only [decide_eq_true_eq] at *;omega) (fun a b=>by simp only [Bool.or_eq_true,decide_eq_true_eq];omega) l
 exact this.imp fun h=>by simpa using h
theorem zrt {α:Type} (m:List (Int×α)) (d:Int×α) {q:List Nat} (h:q.Perm (List.range m.length)):zi3 (q.map fun e=>(m.getD e d).1)=zi3 (m.map (·.1)):=by
 refine zmF ?_
 have h1:=h.map (fun e=>(m.getD e d).1)
 have h2:(List.range m.length).map (fun e=>(m.getD e d).1)=((List.range m.length).map fun e=>m.getD e d).map (·.1):=by rw [List.map_map];rfl
 rw [h2,zmC] at h1
 exact h1
end Go.AM
