/-
  The abstract machine: a call that leaves some elements of a slice out.
  Conditions: none; it speaks of any program.
-/
import Derived.Test.YtchhkifidbkjcaaAmX
set_option linter.all false
namespace Go.AM
open Go Go.RowKit
theorem zqz {P : Program} {N : Nat} (hm : P.follows .mixedOrders = true) {f : FuncId} {fn : Func} {c : Code} (hf : P.funcs[f]? = some fn) (hb : fn.body = some c) (hname : fn.name ≠ "runtime.NumGoroutine") (hN : fn.ntmps = N)
  {as:List AV} (hlen:as.length<=N) {r:AV} {id:Nat} {cs ds:List AV} (hp:∀H:zaa,H id=some (.cells ds)->In H r) (hds:∀c,c∈ds->Pure c)
  (h:∀H g,za2 H g->H id=some (.cells cs)->wpA P N c (fun e fr H1 _=>(e=.normal\/e=.ret)/\(∃x,zgu P N fr H1 fn.results.toList=some x/\Le r x)/\(∀i,i<g/\i≠id->H1 i=H i)/\H1 id=some (.cells ds)) (zfB as) H g):zfN P f as id cs r ds:=fun H g hfr hid=>by
 have hlt:id<g:=by
  rcases Nat.lt_or_ge id g with h | h
  ·exact h
  ·rw [hfr id h] at hid;cases hid
 have hset:∀i x,(H.set id (.cells ds)) i=some x->(i=id/\x=.cells ds)\/(i≠id/\H i=some x):=fun i x hx=>by
  by_cases e:i=id
  ·subst e
   rw [zaa.set_same] at hx
   injection hx with hx
   exact .inl ⟨rfl,hx.symm⟩
  ·rw [zaa.set_ne _ _ e] at hx
   exact .inr ⟨e,hx⟩
 refine zhn hm hf hb hname hN hlen hfr (fun i hi=>by rw [zaa.set_ne _ _ (by omega)];exact hfr i hi) (Nat.le_refl _) (hp _ (zaa.set_same _ _ _)) (fun i hq=>zaa.cel_put hq) (fun i e n hq=>?_) (fun i k p hq=>⟨p,by rw [zaa.set_ne _ _ (fun e=>by subst e;rw [hid] at hq;cases hq)];exact hq⟩) (fun i _ hq=>?_) (fun i cs' hq=>?_)
  (h H g hfr hid) fun e fr H1 g1 hq=>⟨hq.1,hq.2.1,fun i x hi=>?_⟩
 ·have e':i≠id:=fun e'=>by subst e';rw [hid] at hq;cases hq
  exact ⟨n,by rw [zaa.set_ne _ _ e'];exact hq⟩
 ·rw [zaa.set_ne _ _ (fun e=>by subst e;rw [hid] at hq;cases hq)]
  exact hq
 ·rcases hset i _ hq with ⟨_,h⟩ | ⟨_,h⟩
  ·injection h with h
   subst h
   exact .inr fun c hc=>(hds c hc).inH
  ·exact .inl h
 ·rcases hset i _ hi with ⟨rfl,rfl⟩ | ⟨hne,hi⟩
  ·exact hq.2.2.2
  ·have hl:i<g:=by
    rcases Nat.lt_or_ge i g with h | h
    ·exact h
    ·rw [hfr i h] at hi;cases hi
   rw [hq.2.2.1 i ⟨hl,hne⟩]
   exact hi
theorem zrS {α:Type} {f:α->List AV} (h:∀x,∀c,c∈f x->Pure c) (xs:List α):∀c,c∈(xs.map f).flatten->Pure c:=fun c hc=>by
 obtain ⟨l,hl,hc⟩:=List.mem_flatten.1 hc
 obtain ⟨x,_,rfl⟩:=List.mem_map.1 hl
 exact h x c hc
section
variable {P:Program} {N:Nat} {l:List (Nat×AV)} {H:zaa} {g:Nat} {lim:Option Nat} {g0 i:Nat} {ops:Array Oper} {K:Fr->zaa->Nat->Prop} {r:List Oper} {d:Nat} {ty:TypeId} {pos:String} {after:Array Edge}
 {O:Nat->Prop} {H0:zaa} {L Lp:List (Nat×Blk)} {b:Nat}
theorem zu9 {t ty':TypeId} {x:Operand} {j off k n c:Nat} (hd:d<N) (hx:evL N l x=.ms j off k n c) (ht:isSlice P t=true)
  (h:zaL P N lim g0 ops K (i+1) r (Fr.of ((d,.v (.int .i64 n))::l)) H g):zaL P N lim g0 ops K i (⟨some d,.call { callee:=.builtin .len,args:=#[x],argTypes:=#[t] },ty',pos,after,none⟩::r) (Fr.of l) H g :=
 za3 (wr:=none) hd rfl (by cases lim<;>rfl) (by simp [zat,hx,ht]) h
theorem zrT {t:TypeId} {x:Operand} {lo hi mx:Option Operand} {j off k n c:Nat} {v:AV} (p q:Nat) (hd:d<N) (hx:evL N l x=.ms j off k n c) (hk:zaF P t=some k)
  (hl:loN (lo.map (evL N l))=some p) (hh:hiN (mx.map (evL N l)).isSome n (hi.map (evL N l))=some q) (hc:zvR j off k c p q (mx.map (evL N l))=some v)
  (h:zaL P N lim g0 ops K (i+1) r (Fr.of ((d,v)::l)) H g):zaL P N lim g0 ops K i (⟨some d,.slice t x lo hi mx,ty,pos,after,none⟩::r) (Fr.of l) H g :=
 za3 (wr:=none) hd rfl (by cases lim<;>rfl) (by simp only [zat,zpa,hx,hk,if_true,hl,hh,hc,Option.bind_some,Option.map_some]) h
end
end Go.AM
