/-
  The abstract machine: a function that returns what names a new map of its own.
  Conditions: none; it speaks of any program.
-/
import Derived.Test.YtchhkifidbkjcaaAmRg
set_option linter.all false
namespace Go.AM
open Go Go.RowKit
def zyl (O:Nat->Prop) (H:zaa) (c e:Nat):Prop:=∀q,c<=q->q<e->H q=none/\¬O q
theorem St.addU {O:Nat->Prop} {H0 H:zaa} {L:BL} {b:Nat} (h:St O H0 L H b) {i:Nat} (x:Blk) (hi:H i=none/\¬O i) (hb:i<b):St O H0 ((i,x)::L) (H.set i x) b:=by
 have hne:∀p,p∈L->p.1≠i:=fun p hp e=>by
  have:=(h.has p hp).2.2
  rw [e,hi.1] at this
  cases this
 refine ⟨fun j hj=>?_,fun p hp=>?_,?_,fun j hj=>by rw [zaa.set_ne _ _ (by omega)];exact h.fr j hj⟩
 ·have:=h.old j hj
  exact ⟨this.1,by rw [zaa.set_ne _ _ (show j≠i from fun e=>hi.2 (by rw [←e];exact hj))];exact this.2⟩
 ·rcases List.mem_cons.1 hp with rfl | hp
  ·exact ⟨hi.2,hb,zaa.set_same _ _ _⟩
  ·have:=h.has p hp
   exact ⟨this.1,this.2.1,by rw [zaa.set_ne _ _ (hne p hp)];exact this.2.2⟩
 ·rw [List.map_cons,List.nodup_cons]
  refine ⟨fun hm=>?_,h.nd⟩
  obtain ⟨p,hp,e⟩:=List.mem_map.1 hm
  exact hne p hp e
def zqH (P:Program) (f:FuncId) (as:List AV) (mk:Nat->AV) (p:Obj->Prop) (k:Nat):Prop:=∀H g,za2 H g->Sat P f as H g (mk (g+k)) (H.set (g+k) (.obj none p)) (g+k+1)
theorem zqH.le {P:Program} {f:FuncId} {as bs:List AV} {mk:Nat->AV} {p:Obj->Prop} {k:Nat} (h:zqH P f as mk p k) (hl:LeL as bs):zqH P f bs mk p k:=fun H g hf =>
 ⟨(h H g hf).1,fun G w vs hp hv=>(h H g hf).2 G w vs hp (hv.le hl)⟩
theorem zoM {P : Program} {N : Nat} (hm : P.follows .mixedOrders = true) {f : FuncId} {fn : Func} {c : Code} (hf : P.funcs[f]? = some fn) (hb : fn.body = some c) (hname : fn.name ≠ "runtime.NumGoroutine") (hN : fn.ntmps = N)
  {as:List AV} (hlen:as.length<=N) {mk:Nat->AV} {p:Obj->Prop} {k:Nat} (hp:∀g H,H (g+k)=some (.obj none p)->In H (mk (g+k)))
  (h:∀H g,za2 H g->wpA P N c (fun e fr H1 _=>(e=.normal\/e=.ret)/\(∃x,zgu P N fr H1 fn.results.toList=some x/\Le (mk (g+k)) x)/\(∀i,i<g->H1 i=H i)/\H1 (g+k)=some (.obj none p)) (zfB as) H g):zqH P f as mk p k:=fun H g hfr=>by
 have hlt:∀i x,H i=some x->i<g:=fun i x hi=>by
  rcases Nat.lt_or_ge i g with h | h
  ·exact h
  ·rw [hfr i h] at hi;cases hi
 have hput:∀i x,H i=some x->(H.set (g+k) (.obj none p)) i=some x:=fun i x hi=>by rw [zaa.set_ne _ _ (by have:=hlt i x hi;omega)];exact hi
 refine zhn hm hf hb hname hN hlen hfr (fun i hi=>?_) (by omega) (hp g _ (zaa.set_same _ _ _)) (fun i hi=>zaa.cel_mono (hput i) hi) (fun i e n hi=>⟨n,hput i _ hi⟩) (fun i k p hi=>⟨p,hput i _ hi⟩) (fun i hi hq=>?_) (fun i cs' hq=>?_)
  (h H g hfr) fun e fr H1 g1 hq=>⟨hq.1,hq.2.1,fun i x hi=>?_⟩
 ·rw [zaa.set_ne _ _ (by omega)]
  exact hfr i (by omega)
 ·rw [zaa.set_ne _ _ (by omega)];exact hq
 ·rcases zaa.set_cases hq with ⟨_,h⟩ | ⟨_,h⟩
  ·cases h
  ·exact .inl h
 ·rcases zaa.set_cases hi with ⟨rfl,h1⟩ | ⟨_,h1⟩
  ·rw [hq.2.2.2,h1]
  ·rw [hq.2.2.1 i (hlt i x h1)]
   exact h1
theorem zve {P:Program} {N:Nat} {fr:Fr} {H H0:zaa} {g b k j:Nat} {L:BL} {rs:List ResultVar} {e:Exit} {x:AV} {mk:Nat->AV} {p q:Obj->Prop} (m:Nat) (he:e=.normal\/e=.ret) (hx:zgu P N fr H rs=some x) (hl:Le (mk j) x) (hS:St (·<g) H0 L H b) (hn:L[m]?=some (j,.obj none p)) (hpq:p=q) (hj:j=g+k) :
  (e=.normal\/e=.ret)/\(∃x,zgu P N fr H rs=some x/\Le (mk (g+k)) x)/\(∀i,i<g->H i=H0 i)/\H (g+k)=some (.obj none q) :=
 ⟨he,⟨x,hx,hj▸hl⟩,fun i hi=>(hS.old i hi).2,by rw [←hj,←hpq];exact hS.get hn⟩
section
variable {P:Program} {N:Nat} {l:List (Nat×AV)} {H:zaa} {g:Nat} {lim:Option Nat} {g0 i:Nat} {ops:Array Oper} {K:Fr->zaa->Nat->Prop} {r:List Oper} {d:Nat} {ty:TypeId} {pos:String} {after:Array Edge}
 {O:Nat->Prop} {H0:zaa} {L L':List (Nat×Blk)} {b:Nat}
theorem zvf {f:Operand} {args:Array Operand} {ts:Array TypeId} {kf k:Nat} {first cap bs:List AV} {mk:Nat->AV} {p:Obj->Prop} (hl:lim=none\/zfe ops (Fr.of l) i=true) (hS:St O H0 L H b) (hd:d<N) (ht:tgt (evL N l f)=some (kf,first,cap)) (ha:first++args.toList.map (evL N l)++cap=bs)
  (hs:zqH P kf bs mk p k) (hb:b<=g)
  (h:∀H',St O H0 ((g+k,.obj none p)::L) H' (g+k+1)->zyl O H' b (g+k)->zaL P N lim g0 ops K (i+1) r (Fr.of ((d,mk (g+k))::l)) H' (g+k+1)) :
  zaL P N lim g0 ops K i (⟨some d,.call { callee:=.value f,args:=args,argTypes:=ts },ty,pos,after,none⟩::r) (Fr.of l) H g :=
 zie hd ht ha (hs H g fun j hj=>hS.fr j (Nat.le_trans hb hj)) hl (h _ (hS.add (.obj none p) (by omega)) fun q h1 h2=>⟨by rw [zaa.set_ne _ _ (by omega)];exact hS.fr q h1,fun hO=>by have:=(hS.old q hO).1;omega⟩)
theorem ztM {t:TypeId} {cs:List AV} {c e:Nat} (hS:St O H0 L H b) (hU:zyl O H c e) (hd:d<N) (hz:zdK P t=some cs) (hc:c<=g0+i) (he:g0+i<e) (hb:e<=b)
  (h:∀H',St O H0 ((g0+i,.cells cs)::L) H' b->zyl O H' (g0+i+1) e->zaL P N lim g0 ops K (i+1) r (Fr.of ((d,.ptr (g0+i) 0)::l)) H' g):zaL P N lim g0 ops K i (⟨some d,.alloc t,ty,pos,after,none⟩::r) (Fr.of l) H g :=
 za3 (wr:=some (g0+i,.cells cs)) hd rfl (by cases lim<;>rfl) (by simp [zat,hz]) (h _ (hS.addU _ (hU _ hc he) (by omega)) fun q h1 h2=>⟨by show (H.set _ _) q=none;rw [zaa.set_ne _ _ (by omega)];exact (hU q (by omega) h2).1,(hU q (by omega) h2).2⟩)
end
end Go.AM
