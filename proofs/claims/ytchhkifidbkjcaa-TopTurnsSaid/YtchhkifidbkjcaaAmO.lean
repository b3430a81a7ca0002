/-
  The abstract machine: functions that return a new slice; comparisons with nil.
  Conditions: none; it speaks of any program.
-/
import Derived.Test.YtchhkifidbkjcaaAmN
set_option linter.all false
namespace Go.AM
open Go Go.RowKit
section
variable {P:Program}
theorem zqu {G G1:Gh} {H:zaa} {w w1:World} {j new:Nat} {e:TypeId} {n:Nat} (hp0:Hp G H w) (hj:H j=none) (hn:H new=none)
  (hp:Hp G1 (H.set j (.row e n)) w1) (hE:Ext G H w G1 (H.set j (.row e n)) w1) :
  Hp (G1.atσ new (G1.σ j) (G1.sz j)) (H.set new (.row e n)) w1/\Ext G H w (G1.atσ new (G1.σ j) (G1.sz j)) (H.set new (.row e n)) w1 /\
   ∀k es v,(∀e,e∈es->∀c,c∈e->Pure c)->VR G1 (H.set j (.row e n)) w1 (.sl (.id j) k es) v->VR (G1.atσ new (G1.σ j) (G1.sz j)) (H.set new (.row e n)) w1 (.sl (.id new) k es) v:=by
 have g1:∀i,i≠new->(G1.atσ new (G1.σ j) (G1.sz j)).σ i=G1.σ i/\(G1.atσ new (G1.σ j) (G1.sz j)).sz i=G1.sz i:=fun i h=>by simp [Gh.atσ,h]
 have g2:(G1.atσ new (G1.σ j) (G1.sz j)).σ new=G1.σ j/\(G1.atσ new (G1.σ j) (G1.sz j)).sz new=G1.sz j:=by simp [Gh.atσ]
 have g3:(G1.atσ new (G1.σ j) (G1.sz j)).φ=G1.φ:=rfl
 have g4:(G1.atσ new (G1.σ j) (G1.sz j)).lo=G1.lo:=rfl
 generalize hG2:G1.atσ new (G1.σ j) (G1.sz j)=G2 at g1 g2 g3 g4
 have hsome:∀i x,H i=some x->i≠new/\i≠j:=fun i x h=>⟨fun e=>(by subst e;rw [hn] at h;cases h),fun e=>(by subst e;rw [hj] at h;cases h)⟩
 have old:∀i x,H i=some x->(H.set j (.row e n)) i=some x/\(H.set new (.row e n)) i=some x:=fun i x h=>by
  obtain ⟨h1,h2⟩:=hsome i x h
  exact ⟨by rw [zaa.set_ne _ _ h2];exact h,by rw [zaa.set_ne _ _ h1];exact h⟩
 have cells2:∀i cs,(H.set new (.row e n)) i=some (.cells cs)->H i=some (.cells cs):=fun i cs h=>by
  rcases zaa.set_cases h with ⟨_,hx⟩ | ⟨_,hx⟩
  ·cases hx
  ·exact hx
 have row2:∀i d m,(H.set new (.row e n)) i=some (.row d m)->∃i',(H.set j (.row e n)) i'=some (.row d m)/\G2.σ i=G1.σ i'/\G2.sz i=G1.sz i'/\(i=new/\i'=j\/i≠new/\i'=i/\i≠j):=fun i d m h=>by
  rcases zaa.set_cases h with ⟨rfl,hx⟩ | ⟨hne,hx⟩
  ·exact ⟨j,by rw [zaa.set_same,←hx],g2.1,g2.2,.inl ⟨rfl,rfl⟩⟩
  ·exact ⟨i,(old i _ hx).1,(g1 i hne).1,(g1 i hne).2,.inr ⟨hne,rfl,(hsome i _ hx).2⟩⟩
 have free2:∀b k,zis G1 (H.set j (.row e n)) b k->zis G2 (H.set new (.row e n)) b k:=fun b k h =>
  ⟨fun i cs hi=>by rw [g3];exact h.1 i cs (old i _ (cells2 i cs hi)).1,fun i d m hi hb=>by
   obtain ⟨i',h1,h2,h3,_⟩:=row2 i d m hi
   rw [h3]
   exact h.2 i' d m h1 (by rw [←h2];exact hb)⟩
 have E3:Evo G1 (H.set j (.row e n)) w1 G2 ((H.set j (.row e n)).set new (.row e n)) w1:=by
  have hnn:(H.set j (.row e n)) new=none\/new=j:=by
   by_cases h:new=j
   ·exact .inr h
   ·exact .inl (by rw [zaa.set_ne _ _ h];exact hn)
  have g1':∀i x,(H.set j (.row e n)) i=some x->G2.σ i=G1.σ i/\G2.sz i=G1.sz i:=fun i x h=>by
   by_cases hi:i=new
   ·subst hi
    rcases hnn with h' | h'
    ·rw [h'] at h;cases h
    ·subst h';exact g2
   ·exact g1 i hi
  have up:∀i x,(H.set j (.row e n)) i=some x->((H.set j (.row e n)).set new (.row e n)) i=some x:=fun i x h=>by
   by_cases hi:i=new
   ·subst hi
    rcases hnn with h' | h'
    ·rw [h'] at h;cases h
    ·subst h';rw [zaa.set_same] at h ⊢;exact h
   ·rw [zaa.set_ne _ _ hi];exact h
  refine ⟨fun i h=>⟨by rcases h with ⟨cs,h⟩ | h<;>rw [g3,(g1' i _ h).2],zaa.cel_mono (up i) h⟩,fun i d m h=>⟨(g1' i _ h).2,m,up i _ h,Nat.le_refl _,fun _=>(g1' i _ h).1⟩,fun i q p h=>⟨by rw [g3],p,up i _ h⟩,fun b k h=>⟨fun _ _ _ hx=>hx,fun _=>⟨fun i cs hi=>?_,fun i d m hi hb=>?_⟩⟩,g4,fun _ _ _ _ _ h=>h⟩
  ·rw [g3]
   rcases zaa.set_cases hi with ⟨_,hx⟩ | ⟨_,hx⟩
   ·cases hx
   ·exact h.1 i cs hx
  ·rcases zaa.set_cases hi with ⟨rfl,hx⟩ | ⟨hne,hx⟩
   ·injection hx with h1 h2
    subst h1 h2
    rw [g2.1] at hb
    rw [g2.2]
    exact h.2 j _ _ (zaa.set_same _ _ _) hb
   ·rw [(g1 i hne).1] at hb
    rw [(g1 i hne).2]
    exact h.2 i d m hx hb
 have sub3:∀i x,(H.set new (.row e n)) i=some x->((H.set j (.row e n)).set new (.row e n)) i=some x:=fun i x h=>by
  by_cases hi:i=new
  ·subst hi;rw [zaa.set_same] at h ⊢;exact h
  ·rw [zaa.set_ne _ _ hi] at h ⊢
   exact (old i x h).1
 have inup:∀c,In H c->In (H.set new (.row e n)) c:=fun c h=>h.mono (fun i hi=>zaa.cel_mono (h:=hi) fun x hx=>(old i x hx).2) (fun i d m hi=>⟨m,(old i _ hi).2⟩) (fun i q p hi=>⟨p,(old i _ hi).2⟩)
 have obj2:∀i q p,(H.set new (.row e n)) i=some (.obj q p)->H i=some (.obj q p):=fun i q p h=>by
  rcases zaa.set_cases h with ⟨_,hx⟩ | ⟨_,hx⟩
  ·cases hx
  ·exact hx
 have move:∀c x,In (H.set new (.row e n)) c->VR G1 (H.set j (.row e n)) w1 c x->VR G2 (H.set new (.row e n)) w1 c x:=fun c x hin h=>(h.evo E3).back sub3 hin
 refine ⟨⟨fun i cs hi=>?_,fun i d m hi=>?_,fun i i' cs ds h1 h2 he=>?_,fun i i' cs d m h1 h2=>?_,fun i i' d m d' m' b h1 h2 hb1 hb2=>?_,fun i q p hi=>by rw [g3];exact hp.objs i q p (old i _ (obj2 i q p hi)).1,fun i i' q q' p p' h1 h2 he=>hp.oinj i i' q q' p p' (old i _ (obj2 i q p h1)).1 (old i' _ (obj2 i' q' p' h2)).1 (by rw [g3] at he;exact he),by rw [g4];exact hp.lo⟩,⟨⟨fun i hi=>?_,fun i d m hi=>?_,fun i q p hi=>?_,fun b k hf=>?_,g4.trans hE.evo.lo,hE.evo.whole⟩,hE.os,hE.tape,hE.output,hE.size,hE.block,fun b hb=>?_⟩,fun k es v hpure hv=>?_⟩
 ·have h0:=cells2 i cs hi
  obtain ⟨us,tu,q1,q2,q3,q4⟩:=hp.cells i cs (old i _ h0).1
  obtain ⟨us0,_,r1,r2,_,r4⟩:=hp0.cells i cs h0
  refine ⟨us,tu,by rw [g3];exact q1,⟨q2.1,by rw [(g1 i (hsome i _ h0).1).2];exact q2.2⟩,q3,fun y c x hc hx=>move c x (inup c ?_) (q4 y c x hc hx)⟩
  have hy:y<us0.size:=by have:=(List.getElem?_eq_some_iff.1 hc).1;omega
  exact (r4 y c us0[y] hc (Array.getElem?_eq_getElem hy)).inH
 ·obtain ⟨i',h1,h2,h3,_⟩:=row2 i d m hi
  rw [h2,h3]
  exact hp.rows i' d m h1
 ·rw [g3] at he
  exact hp.inj i i' cs ds (old i _ (cells2 i cs h1)).1 (old i' _ (cells2 i' ds h2)).1 he
 ·obtain ⟨k',q1,q2,_,_⟩:=row2 i' d m h2
  rw [q2,g3]
  exact hp.sep i k' cs d m (old i _ (cells2 i cs h1)).1 q1
 ·obtain ⟨k1,q1,q2,_,q4⟩:=row2 i d m h1
  obtain ⟨k2,s1,s2,_,s4⟩:=row2 i' d' m' h2
  rw [q2] at hb1
  rw [s2] at hb2
  have hk:=hp.own k1 k2 d m d' m' b q1 s1 hb1 hb2
  rcases q4 with ⟨a1,a2⟩ | ⟨a1,a2,a3⟩<;>rcases s4 with ⟨c1,c2⟩ | ⟨c1,c2,c3⟩<;>omega
 ·obtain ⟨h1,_⟩:=hE.evo.cells i hi
  exact ⟨by rcases hi with ⟨cs,hi⟩ | hi<;>(rw [g3,(g1 i (hsome i _ hi).1).2];exact h1),zaa.cel_mono (h:=hi) fun x hx=>(old i x hx).2⟩
 ·obtain ⟨h1,m',h2,h3,h4⟩:=hE.evo.row i d m hi
  rw [zaa.set_ne _ _ (hsome i _ hi).2] at h2
  exact ⟨(g1 i (hsome i _ hi).1).2.trans h1,m',(old i _ h2).2,h3,fun e'=>(g1 i (hsome i _ hi).1).1.trans (h4 e')⟩
 ·obtain ⟨h1,p',h2⟩:=hE.evo.obj i q p hi
  rw [zaa.set_ne _ _ (hsome i _ hi).2] at h2
  exact ⟨by rw [g3];exact h1,p',(old i _ h2).2⟩
 ·obtain ⟨h1,h2⟩:=hE.evo.keep b k hf
  exact ⟨h1,fun hb=>free2 b k (h2 hb)⟩
 ·refine hE.im b ?_
  rcases hb with ⟨i,cs,hi,h⟩ | ⟨i,d,m,hi,h⟩ | ⟨i,q,p,hi,h⟩
  ·exact .inl ⟨i,cs,(old i _ (cells2 i cs hi)).1,by rw [←g3];exact h⟩
  ·obtain ⟨i',h1,h2,_,_⟩:=row2 i d m hi
   exact .inr (.inl ⟨i',d,m,h1,by rw [←h2];exact h⟩)
  ·exact .inr (.inr ⟨i,q,p,(old i _ (obj2 i q p hi)).1,by rw [←g3];exact h⟩)
 ·cases hv with
  | sl _ _ _ a cap b o f hcap hs ha hc hvv ht =>
   refine .sl (.id new) k es a cap b o f hcap hs (fun hne=>?_) hc (fun y z q c h1 h2=>move c _ ((hpure q (List.mem_of_getElem? h1) c (List.mem_of_getElem? h2)).inH) (hvv y z q c h1 h2)) ?_
   ·obtain ⟨h1,h2,h3⟩:=ha hne
    exact ⟨h1,h2,free2 _ _ h3⟩
   ·obtain ⟨d,m,h1,h2,h3,h4⟩:=ht
    rw [zaa.set_same] at h1
    injection h1 with h1
    injection h1 with h1 h1'
    subst h1 h1'
    exact ⟨_,_,zaa.set_same _ _ _,g2.2.trans h2,h3,fun e'=>by rw [g2.1];exact h4 e'⟩
theorem zoG {N : Nat} (hm : P.follows .mixedOrders = true) {f : FuncId} {fn : Func} {c : Code} (hf : P.funcs[f]? = some fn) (hb : fn.body = some c) (hname : fn.name ≠ "runtime.NumGoroutine") (hN : fn.ntmps = N)
  {as:List AV} (hlen:as.length<=N) {e:TypeId} {k:Nat} {es:List (List AV)} (hpure:∀e,e∈es->∀c,c∈e->Pure c)
  (h:∀H g,za2 H g->wpA P N c (fun ex fr H1 _=>(ex=.normal\/ex=.ret)/\(∃x,zgu P N fr H1 fn.results.toList=some x/\((∃j,g<=j/\x=.sl (.id j) k es/\H1 j=some (.row e es.length))\/(0<k/\es=[]/\∃k',x=.sl .nil k' [])))/\∀i,i<g->H1 i=H i) (zfB as) H g):zf9 P f as e k es:=by
 refine ⟨⟨fn,c,hf,hb,hname⟩,fun G H g new w vs hfr hnew hp ha=>?_⟩
 refine callsIn_wide.1 (callsIn_of_wp_marks (n:=0) (F:=Fence.wide) hf hb trivial (zgy hm c none 0 G H w _ _ _ _ _ _ _ (.inl rfl) (h H g hfr) (zhQ hN hlen hp ha) hfr fun ex fr H1 g1 a' w' hq S' _=>?_) rfl)
 obtain ⟨he,⟨x,hx,hcase⟩,hold⟩:=hq
 obtain ⟨G1,hp0,hE0,⟨Ds,hd1,hd2,hd3⟩,_,hv0⟩:=S'
 have hlt:∀i y,H i=some y->i<g:=fun i y hi=>by
  rcases Nat.lt_or_ge i g with h | h
  ·exact h
  ·rw [hfr i h] at hi;cases hi
 have hsub:∀i y,H i=some y->H1 i=some y:=fun i y hi=>by rw [hold i (hlt i y hi)];exact hi
 have main:LeavesInM Fence.wide 0 P fn a'.tmps (fun en w'=>∃v G',en=.returned v/\Hp G' (H.set new (.row e es.length)) w'/\Ext G H w G' (H.set new (.row e es.length)) w'/\VR G' (H.set new (.row e es.length)) w' (.sl (.id new) k es) v) a'.defers .returning w':=by
  rw [hd1]
  refine zdO Ds w' hp0 hE0 hd2 hd3 fun w2 hp1 hE hev=>?_
  obtain ⟨v,hrun,hvr⟩:=zeU (P:=P) (fn:=fn) hp1 (fun t ht=>(hv0 t ht).evo hev) hx
  refine ⟨v,hrun,?_⟩
  have fin:∀G',Hp G' (H.set new (.row e es.length)) w2->Ext G H w G' (H.set new (.row e es.length)) w2->VR G' (H.set new (.row e es.length)) w2 (.sl (.id new) k es) v ->
    ∃v' G',Ending.returned v=.returned v'/\Hp G' (H.set new (.row e es.length)) w2/\Ext G H w G' (H.set new (.row e es.length)) w2/\VR G' (H.set new (.row e es.length)) w2 (.sl (.id new) k es) v' :=
   fun G' h2 h3 h4=>⟨v,G',rfl,h2,h3,h4⟩
  rcases hcase with ⟨j,hj,rfl,hH1⟩ | ⟨hk,rfl,k',rfl⟩
  ·have hjn:H j=none:=hfr j hj
   have hsub':∀i y,(H.set j (.row e es.length)) i=some y->H1 i=some y:=fun i y hi=>by
    rcases zaa.set_cases hi with ⟨rfl,hy⟩ | ⟨_,hy⟩
    ·rw [hH1,hy]
    ·exact hsub i y hy
   have hne:∀i y,H i=some y->i≠j:=fun i y hi e'=>by subst e';rw [hjn] at hi;cases hi
   obtain ⟨q1,q2⟩:=zfD hp hp1 hE hsub' (fun i hi=>zaa.cel_mono (h:=hi) fun x hx=>by rw [zaa.set_ne _ _ (hne i _ hx)];exact hx) (fun i d m hi=>⟨m,by rw [zaa.set_ne _ _ (hne i _ hi)];exact hi⟩) (fun i q p hi=>⟨p,by rw [zaa.set_ne _ _ (hne i _ hi)];exact hi⟩) (fun i cs hi=>by
    rcases zaa.set_cases hi with ⟨_,hx⟩ | ⟨_,hx⟩
    ·cases hx
    ·exact .inl hx)
   obtain ⟨s1,s2,s3⟩:=zqu hp hjn hnew q1 q2
   refine fin _ s1 s2 (s3 k es v hpure (hvr.back hsub' ?_))
   exact .sl (.id j) k es (fun τ h=>by injection h with h;subst h;exact ⟨_,_,zaa.set_same _ _ _⟩) (fun e he c hc=>(hpure e he c hc).inH)
  ·obtain ⟨q1,q2⟩:=zfD hp hp1 hE hsub (fun i hi=>hi) (fun i d m hi=>⟨m,hi⟩) (fun i q p hi=>⟨p,hi⟩) (fun i cs hi=>.inl hi)
   obtain ⟨s1,s2,s3⟩:=zh9 (w':=w2) (v:=.slice none 0 0) (es:=[]) (xs:=[]) (e:=e) q1 hnew hk (fun _ _=>rfl) (Nat.le_refl _) rfl rfl rfl (zfC e k) (fun b hb=>by simp [Value.ownBlock] at hb) (.nil k)
   have hv0:v=.slice none 0 0:=by
    cases hvr with
    | sl _ _ _ a cap b o f hcap hs ha hc hvv ht=>exact ht
   subst hv0
   exact fin _ s1 (q2.trans s2) s3
 rcases he with rfl | rfl
 ·exact main
 ·exact main
end
section
variable {P:Program} {N:Nat} {l:List (Nat×AV)} {H:zaa} {g:Nat} {lim:Option Nat} {g0 i:Nat} {ops:Array Oper} {K:Fr->zaa->Nat->Prop} {r:List Oper} {d:Nat} {op:Op} {ty:TypeId} {pos:String} {after:Array Edge}
 {O:Nat->Prop} {H0:zaa} {L:List (Nat×Blk)} {b:Nat}
theorem zyi {t:TypeId} {x:Operand} {e:Bool} {tg:Tag} {k:Nat} {es:List (List AV)} (hd:d<N) (hc:zbz op=none) (ho:zjS op=some (t,x,e)) (he:zat P (g0+i) op (evL N l) H=none) (hx:evL N l x=.sl tg k es) (ht:isSlice P t=true)
  (hF:tg≠.nil->zaL P N none g0 ops K (i+1) r (Fr.of ((d,.v (.bool (false==e)))::l)) H g) (hT:es=[]->zaL P N none g0 ops K (i+1) r (Fr.of ((d,.v (.bool (true==e)))::l)) H g) :
  zaL P N none g0 ops K i (⟨some d,op,ty,pos,after,none⟩::r) (Fr.of l) H g:=by
 simp only [zaL,zbs,opQ,hc,zea,he,ho,hx,zdP hd,zv1]
 rw [if_pos (by rfl)]
 exact ⟨ht,hF,hT⟩
theorem zu1 {f:Operand} {args:Array Operand} {ts:Array TypeId} {k:FuncId} {first cap bs:List AV} {e k':Nat} {es:List (List AV)} (hS:St O H0 L H b) (hd:d<N) (ht:tgt (evL N l f)=some (k,first,cap)) (ha:first++args.toList.map (evL N l)++cap=bs)
  (hs:zf9 P k bs e k' es) (hb:b<=g0+i) (h:∀H',St O H0 ((g0+i,.row e es.length)::L) H' (g0+i+1)->zaL P N lim g0 ops K (i+1) r (Fr.of ((d,.sl (.id (g0+i)) k' es)::l)) H' g) :
  zaL P N lim g0 ops K i (⟨some d,.call { callee:=.value f,args:=args,argTypes:=ts },ty,pos,after,none⟩::r) (Fr.of l) H g :=
 zrB hd ht ha hs (h _ (hS.add _ hb))
theorem zf9.le {k:FuncId} {as bs:List AV} {e k':Nat} {es:List (List AV)} (h:zf9 P k as e k' es) (hl:LeL as bs):zf9 P k bs e k' es :=
 ⟨h.1,fun G H g new w vs hf hn hp hv=>h.2 G H g new w vs hf hn hp (hv.le hl)⟩
theorem zwe {fr:Fr} {g:Nat} {rs:List ResultVar} {ex:Exit} {e k j:Nat} {es:List (List AV)} {m:Nat} (n:Nat) (he:ex=.normal\/ex=.ret) (hx:zgu P N fr H rs=some (.sl (.id j) k es)) (hS:St (·<g) H0 L H b) (hn:L[n]?=some (j,.row e m)) (hm:m=es.length) :
  (ex=.normal\/ex=.ret)/\(∃x,zgu P N fr H rs=some x/\((∃j,g<=j/\x=.sl (.id j) k es/\H j=some (.row e es.length))\/(0<k/\es=[]/\∃k',x=.sl .nil k' [])))/\∀i,i<g->H i=H0 i:=by
 have:=hS.has _ (List.mem_of_getElem? hn)
 exact ⟨he,⟨_,hx,.inl ⟨j,Nat.le_of_not_lt this.1,rfl,by rw [←hm];exact this.2.2⟩⟩,fun i hi=>(hS.old i hi).2⟩
theorem zwf {fr:Fr} {g:Nat} {rs:List ResultVar} {ex:Exit} {e k k':Nat} {es:List (List AV)} (he:ex=.normal\/ex=.ret) (hx:zgu P N fr H rs=some (.sl .nil k' [])) (hS:St (·<g) H0 L H b) (hk:0<k) (hes:es=[]) :
  (ex=.normal\/ex=.ret)/\(∃x,zgu P N fr H rs=some x/\((∃j,g<=j/\x=.sl (.id j) k es/\H j=some (.row e es.length))\/(0<k/\es=[]/\∃k',x=.sl .nil k' [])))/\∀i,i<g->H i=H0 i :=
 ⟨he,⟨_,hx,.inr ⟨hk,hes,k',rfl⟩⟩,fun i hi=>(hS.old i hi).2⟩
end
end Go.AM
