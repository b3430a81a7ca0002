/-
  The abstract machine: a call that changes cells of one block, in which cells stand that are no plain values; an append to nil within a struct.
  Conditions: none; it speaks of any program.
-/
import Derived.Test.YtchhkifidbkjcaaAmPc
import Derived.Test.YtchhkifidbkjcaaAmSd
set_option linter.all false
namespace Go.AM
open Go Go.RowKit
theorem zsb {G G1:Gh} {H H1 H':zaa} {w w1:World} (hp:Hp G H w) (hp1:Hp G1 H1 w1) (hE:Ext G H w G1 H1 w1) (hsub:∀i x,H' i=some x->H1 i=some x)
  (hc:∀i,H.cel i->H'.cel i) (hr:∀i e n,H i=some (.row e n)->∃n',H' i=some (.row e n')) (ho:∀i k p,H i=some (.obj k p)->∃p',H' i=some (.obj k p'))
  (hcl:∀i cs,H' i=some (.cells cs)->H i=some (.cells cs)\/∀c,c∈cs->In H' c\/∃ds,H i=some (.cells ds)/\c∈ds):Hp G1 H' w1/\Ext G H w G1 H' w1:=by
 have old:∀i ds c,H i=some (.cells ds)->c∈ds->In H' c:=fun i ds c h hc'=>by
  obtain ⟨vs,ty,_,hs,_,hv⟩:=hp.cells i ds h
  obtain ⟨j,hj⟩:=List.getElem?_of_mem hc'
  have hlt:j<vs.size:=by have:=(List.getElem?_eq_some_iff.1 hj).1;omega
  exact ((hv j c vs[j] hj (Array.getElem?_eq_getElem hlt)).inH).mono hc hr ho
 refine zfD hp hp1 hE hsub hc hr ho fun i cs hi=>?_
 rcases hcl i cs hi with h | h
 ·exact .inl h
 ·refine .inr fun c hc'=>?_
  rcases h c hc' with h | ⟨ds,h1,h2⟩
  ·exact h
  ·exact old i ds c h1 h2
theorem zqM {P : Program} {N : Nat} (hm : P.follows .mixedOrders = true) {f : FuncId} {fn : Func} {c : Code} (hf : P.funcs[f]? = some fn) (hb : fn.body = some c) (hname : fn.name ≠ "runtime.NumGoroutine") (hN : fn.ntmps = N)
  {as:List AV} (hlen:as.length<=N) {r:AV} {id:Nat} {cs ds:List AV} (hp:Pure r) (hds:∀c,c∈ds->Pure c\/c∈cs)
  (h:∀H g,za2 H g->H id=some (.cells cs)->wpA P N c (fun e fr H1 _=>(e=.normal\/e=.ret)/\(∃x,zgu P N fr H1 fn.results.toList=some x/\Le r x)/\(∀i,i<g/\i≠id->H1 i=H i)/\H1 id=some (.cells ds)) (zfB as) H g):zfN P f as id cs r ds:=fun H g hfr hid=>by
 have hlt:id<g:=by
  rcases Nat.lt_or_ge id g with h | h
  ·exact h
  ·rw [hfr id h] at hid;cases hid
 have hset:∀i x,(H.set id (.cells ds)) i=some x->(i=id/\x=.cells ds)\/(i≠id/\H i=some x):=fun i x hx=>by
  by_cases e:i=id
  ·subst e
   rw [zaa.set_same] at hx
   injection hx with hx
   exact .inl ⟨rfl,hx.symm⟩
  ·rw [zaa.set_ne _ _ e] at hx
   exact .inr ⟨e,hx⟩
 have hne:∀{i:Nat} {x:Blk},H i=some x->(∀cs,x≠.cells cs)->i≠id:=fun {i x} hi hx e=>by
  subst e
  rw [hid] at hi
  injection hi with hi
  exact hx _ hi.symm
 refine ⟨⟨fn,c,hf,hb,hname⟩,fun G w vs hpw ha=>?_⟩
 refine callsIn_wide.1 (callsIn_of_wp_marks (n:=0) (F:=Fence.wide) hf hb trivial (zgy hm c none 0 G H w _ _ _ _ _ _ _ (.inl rfl) (h H g hfr hid) (zhQ hN hlen hpw ha) hfr fun e fr H1 g1 a' w' hq S' _=>?_) rfl)
 obtain ⟨he,⟨x,hx,hle⟩,hold,hnew⟩:=hq
 have hsub:∀i x,(H.set id (.cells ds)) i=some x->H1 i=some x:=fun i x hi=>by
  rcases hset i _ hi with ⟨rfl,rfl⟩ | ⟨hn,hi⟩
  ·exact hnew
  ·have hl:i<g:=by
    rcases Nat.lt_or_ge i g with h | h
    ·exact h
    ·rw [hfr i h] at hi;cases hi
   rw [hold i ⟨hl,hn⟩]
   exact hi
 obtain ⟨G1,hp1,hE,⟨Ds,hd1,hd2,hd3⟩,_,hv⟩:=S'
 have hfin:LeavesInM Fence.wide 0 P fn a'.tmps (fun e w'=>∃v G',e=.returned v/\Hp G' (H.set id (.cells ds)) w'/\(za2 (H.set id (.cells ds)) g/\g<=g/\∀i,i<g->H i=none->(H.set id (.cells ds)) i=none)/\Ext G H w G' (H.set id (.cells ds)) w'/\VR G' (H.set id (.cells ds)) w' r v) a'.defers .returning w':=by
  rw [hd1]
  refine zdO Ds w' hp1 hE hd2 hd3 fun w2 hp2 hE2 hev=>?_
  obtain ⟨v,hrun,hvr⟩:=zeU (P:=P) (fn:=fn) hp2 (fun t ht=>(hv t ht).evo hev) hx
  obtain ⟨q1,q2⟩:=zsb hpw hp2 hE2 hsub (fun i hq=>zaa.cel_put hq) (fun i e n hq=>⟨n,by rw [zaa.set_ne _ _ (hne hq fun cs h=>by cases h)];exact hq⟩) (fun i k p hq=>⟨p,by rw [zaa.set_ne _ _ (hne hq fun cs h=>by cases h)];exact hq⟩) (fun i cs' hq=>by
   rcases hset i _ hq with ⟨e,h⟩ | ⟨_,h⟩
   ·injection h with h
    subst h e
    refine .inr fun c hc=>?_
    rcases hds c hc with h | h
    ·exact .inl h.inH
    ·exact .inr ⟨cs,hid,h⟩
   ·exact .inl h)
  refine ⟨v,hrun,v,G1,rfl,q1,⟨fun i hi=>by rw [zaa.set_ne _ _ (by omega)];exact hfr i hi,Nat.le_refl _,fun i _ hi=>?_⟩,q2,(hvr.le hle).back hsub hp.inH⟩
  rw [zaa.set_ne _ _ (fun e=>by subst e;rw [hid] at hi;cases hi)]
  exact hi
 rcases he with rfl | rfl
 ·exact hfin
 ·exact hfin
theorem zwA {c0 c2:AV} {x y:Value}:∀c,c∈[c0,.v x,c2]->Pure c\/c∈[c0,.v y,c2]:=fun c hc=>by
 simp only [List.mem_cons,List.not_mem_nil,or_false] at hc
 rcases hc with rfl | rfl | rfl
 ·exact .inr (by simp)
 ·exact .inl (.v _)
 ·exact .inr (by simp)
section
variable {P:Program} {N:Nat} {l:List (Nat×AV)} {H:zaa} {g:Nat} {lim:Option Nat} {g0 i:Nat} {ops:Array Oper} {K:Fr->zaa->Nat->Prop} {r:List Oper} {d:Nat} {ty:TypeId} {pos:String} {after:Array Edge}
 {O:Nat->Prop} {H0:zaa} {L L':BL} {b:Nat}
theorem zsc {t:TypeId} {x y:Operand} {k:Nat} {tg:Tag} {xs:List (List AV)} (hS:St O H0 L H b) (hd:d<N) (hx:evL N l x=.v (.slice none 0 0)) (hy:evL N l y=.sl tg k xs) (hk:zaF P t=some k) (hf:za6 P t=true) (hne:xs≠[]) (hl:xs.length<=1048576) (hb:b<=g0+i)
  (h:∀H',St O H0 ((g0+i,.cells xs.flatten)::L) H' (g0+i+1)->zaL P N lim g0 ops K (i+1) r (Fr.of ((d,.ms (g0+i) 0 k xs.length xs.length)::l)) H' g) :
  zaL P N lim g0 ops K i (⟨some d,.call { callee:=.builtin .append,args:=#[x,y],argTypes:=#[t,t] },ty,pos,after,none⟩::r) (Fr.of l) H g:=by
 refine za3 (v:=.ms (g0+i) 0 k xs.length xs.length) (wr:=some (g0+i,.cells xs.flatten)) hd rfl ?_ ?_ (h _ (hS.add _ hb))
 ·cases lim with
  | none=>rfl
  | some q=>simp [old,hx]
 ·simp only [zat,List.map_cons,List.map_nil,hx,hy,if_true,zeQ]
  rw [if_pos ⟨hf,hk,hne,hl⟩]
end
theorem zvh {P : Program} {N : Nat} (hm : P.follows .mixedOrders = true) {f : FuncId} {fn : Func} {c : Code} (hf : P.funcs[f]? = some fn) (hb : fn.body = some c) (hname : fn.name ≠ "runtime.NumGoroutine") (hN : fn.ntmps = N)
  {as:List AV} (hlen:as.length<=N) {r:AV} {p W g:Nat} {H:zaa} {cs cs' ds:List AV} (hfr:za2 H g) (hp:H p=some (.cells cs)) (hW:g<=W)
  (hin:∀H':zaa,H' p=some (.cells cs')->H' W=some (.cells ds)->In H' r/\(∀c,c∈cs'->In H' c)/\∀c,c∈ds->In H' c)
  (h:wpA P N c (fun e fr H1 _=>(e=.normal\/e=.ret)/\(∃x,zgu P N fr H1 fn.results.toList=some x/\Le r x)/\∃b,St (fun i=>i<g/\i≠p) H [(W,.cells ds),(p,.cells cs')] H1 b) (zfB as) H g) :
  Sat P f as H g r ((H.set p (.cells cs')).set W (.cells ds)) (W+1):=by
 have hlt:p<g:=by
  rcases Nat.lt_or_ge p g with h | h
  ·exact h
  ·rw [hfr p h] at hp;cases hp
 have hpW:p≠W:=by omega
 have at_p:((H.set p (.cells cs')).set W (.cells ds)) p=some (.cells cs'):=by rw [zaa.set_ne _ _ hpW,zaa.set_same]
 have at_W:((H.set p (.cells cs')).set W (.cells ds)) W=some (.cells ds):=zaa.set_same _ _ _
 have at_o:∀i,i≠p->i≠W->((H.set p (.cells cs')).set W (.cells ds)) i=H i:=fun i h1 h2=>by rw [zaa.set_ne _ _ h2,zaa.set_ne _ _ h1]
 have hnW:∀i x,H i=some x->i≠W:=fun i x hi e=>by subst e;rw [hfr _ hW] at hi;cases hi
 have hnp:∀i x,H i=some x->(∀cs,x≠.cells cs)->i≠p:=fun i x hi hx e=>by
  subst e
  rw [hp] at hi
  injection hi with hi
  exact hx _ hi.symm
 obtain ⟨i1,i2,i3⟩:=hin _ at_p at_W
 refine zhn hm hf hb hname hN hlen hfr (fun i hi=>?_) (by omega) i1 (fun i hi=>?_) (fun i e n hi=>⟨n,?_⟩) (fun i k q hi=>⟨q,?_⟩) (fun i hl hi=>?_) (fun i es hi=>?_) h fun e fr H1 g1 hq=>⟨hq.1,hq.2.1,fun i x hi=>?_⟩
 ·rw [at_o i (by omega) (by omega)]
  exact hfr i (by omega)
 ·by_cases e:i=p
  ·subst e;exact .inl ⟨_,at_p⟩
  ·rcases hi with ⟨es,hi⟩ | hi
   ·exact .inl ⟨es,by rw [at_o i e (hnW i _ hi)];exact hi⟩
   ·exact .inr (by rw [at_o i e (hnW i _ hi)];exact hi)
 ·rw [at_o i (hnp i _ hi fun _ h=>by cases h) (hnW i _ hi)];exact hi
 ·rw [at_o i (hnp i _ hi fun _ h=>by cases h) (hnW i _ hi)];exact hi
 ·by_cases e:i=p
  ·subst e;rw [hp] at hi;cases hi
  ·rw [at_o i e (by omega)];exact hi
 ·by_cases e:i=W
  ·subst e
   rw [at_W] at hi
   injection hi with hi
   injection hi with hi
   subst hi
   exact .inr i3
  ·by_cases e2:i=p
   ·subst e2
    rw [at_p] at hi
    injection hi with hi
    injection hi with hi
    subst hi
    exact .inr i2
   ·rw [at_o i e2 e] at hi
    exact .inl hi
 ·obtain ⟨_,_,b,hS⟩:=hq
  by_cases e:i=W
  ·subst e
   rw [at_W] at hi
   rw [←hi]
   exact hS.get (n:=0) rfl
  ·by_cases e2:i=p
   ·subst e2
    rw [at_p] at hi
    rw [←hi]
    exact hS.get (n:=1) rfl
   ·rw [at_o i e2 e] at hi
    have hl:i<g:=by
     rcases Nat.lt_or_ge i g with h | h
     ·exact h
     ·rw [hfr i h] at hi;cases hi
    rw [(hS.old i ⟨hl,e2⟩).2]
    exact hi
end Go.AM
