/-
  The abstract machine: rules for slices whose elements are written to, and that grow.
  Conditions: none; it speaks of any program.
-/
import Derived.Test.YtenogpmlhpcibaaAmZ
set_option linter.all false
namespace Go.AM
open Go Go.RowKit
section
variable {P:Program} {N:Nat} {l:List (Nat×AV)} {H:zac} {g:Nat} {g0 i:Nat} {ops:Array Oper} {K:Fr->zac->Nat->Prop} {r:List Oper} {d:Nat} {ty:TypeId} {pos:String} {after:Array Edge}
 {O:Nat->Prop} {H0:zac} {L:List (Nat×Blk)} {b:Nat}
theorem St.ice {j:Nat} {cs:List AV} (hS:St O H0 ((j,.cells cs)::L) H b):St O H0 L (H.set j .ice) b:=by
 have hj:=hS.has (j,.cells cs) (by simp)
 have hnd:=hS.nd
 simp only [List.map_cons,List.nodup_cons] at hnd
 refine ⟨fun k hk=>⟨(hS.old k hk).1,(zac.set_ne _ _ (show k≠j from fun e=>hj.1 (by subst e;exact hk))).trans (hS.old k hk).2⟩,fun p hp=>?_,hnd.2,fun k hk=>?_⟩
 ·have:=hS.has p (List.mem_cons_of_mem _ hp)
  refine ⟨this.1,this.2.1,?_⟩
  rw [zac.set_ne _ _ (fun e=>hnd.1 (List.mem_map.2 ⟨p,hp,e⟩))]
  exact this.2.2
 ·rw [zac.set_ne _ _ (by have:=hj.2.1;omega)]
  exact hS.fr k hk
theorem zwi {t:TypeId} {n k:Nat} {ps:Array (Nat×Operand)} {es:List (List AV)} {e:TypeId} (hS:St O H0 L H b) (hd:d<N) (hk:zaI P t=some k) (he:zbF P t=some e) (hp:zcs k 0 (ps.toList.map fun q=>(q.1,evL N l q.2))=some es) (hf:zaY P t=true) (hn:es.length=n) (hnk:n*k<=1048576) (hb:b<=g0+i)
  (h:∀H',St O H0 ((g0+i,.cells es.flatten)::L) H' (g0+i+1)->zaT P N none g0 ops K (i+1) r (Fr.of ((d,.ms (g0+i) 0 k n n)::l)) H' g) :
  zaT P N none g0 ops K i (⟨some d,.buildSlice t n ps,ty,pos,after,none⟩::r) (Fr.of l) H g:=by
 have hold:old none ops i (.buildSlice t n ps) ((Fr.of l).ev N)=true:=rfl
 have hev:(ps.toList.map fun q=>(q.1,(Fr.of l).ev N q.2))=ps.toList.map fun q=>(q.1,evL N l q.2):=by simp only [zeC]
 have hE:zaC P (g0+i) (.buildSlice t n ps) ((Fr.of l).ev N) H=some (.sl (.id (g0+i)) k es,some (g0+i,.row e n)):=by
  simp only [zaC,hk,Option.bind_some,hev,hp]
  rw [if_pos ⟨hf,hn,hnk⟩]
  simp only [he,Option.bind_some]
 simp only [zaT,zbM,opQ,zb0]
 rw [if_pos hold,hE]
 refine .inr ⟨by trivial,.inr ?_⟩
 simp only [zo1]
 refine ⟨k,es,hk,by rw [hev];exact hp,hf,hn,hnk,.inl ?_⟩
 rw [zd2 hd]
 exact h _ (hS.add _ hb)
theorem znn {t:TypeId} {n k:Nat} {ps:Array (Nat×Operand)} {es:List (List AV)} {e:TypeId} (hd:d<N) (hk:zaI P t=some k) (he:zbF P t=some e) (hp:zcs k 0 (ps.toList.map fun q=>(q.1,evL N l q.2))=some es) (hf:zaY P t=true) (hn:es.length=n) (hnk:n*k<=1048576)
  (h:zaT P N none g0 ops K (i+1) r (Fr.of ((d,.sl .clip k es)::l)) H g) :
  zaT P N none g0 ops K i (⟨some d,.buildSlice t n ps,ty,pos,after,none⟩::r) (Fr.of l) H g:=by
 have hold:old none ops i (.buildSlice t n ps) ((Fr.of l).ev N)=true:=rfl
 have hev:(ps.toList.map fun q=>(q.1,(Fr.of l).ev N q.2))=ps.toList.map fun q=>(q.1,evL N l q.2):=by simp only [zeC]
 have hE:zaC P (g0+i) (.buildSlice t n ps) ((Fr.of l).ev N) H=some (.sl (.id (g0+i)) k es,some (g0+i,.row e n)):=by
  simp only [zaC,hk,Option.bind_some,hev,hp]
  rw [if_pos ⟨hf,hn,hnk⟩]
  simp only [he,Option.bind_some]
 simp only [zaT,zbM,opQ,zb0]
 rw [if_pos hold,hE]
 refine .inr ⟨by trivial,.inr ?_⟩
 simp only [zo1]
 refine ⟨k,es,hk,by rw [hev];exact hp,hf,hn,hnk,.inr ?_⟩
 rw [zd2 hd]
 exact h
theorem zrX {t:TypeId} {x y:Operand} {j k m q:Nat} {cs ds:List AV} (hS:St O H0 ((j,.cells cs)::L) H b) (hd:d<N) (hx:evL N l x=.ms j 0 k m m) (hcs:cs.length=m*k) (hsrc:zq8 H k (evL N l y)=some (q,ds)) (hk:zaI P t=some k) (hf:zaY P t=true) (hm:0<m) (hq:0<q) (hle:m+q<=1048576) (hb:b<=g0+i)
  (h:∀H',St O H0 ((g0+i,.cells (cs++ds))::L) H' (g0+i+1)->zaT P N none g0 ops K (i+1) r (Fr.of ((d,.ms (g0+i) 0 k (m+q) (m+q))::l)) H' g) :
  zaT P N none g0 ops K i (⟨some d,.call { callee:=.builtin .append,args:=#[x,y],argTypes:=#[t,t] },ty,pos,after,none⟩::r) (Fr.of l) H g:=by
 have hold:old none ops i (.call { callee:=.builtin .append,args:=#[x,y],argTypes:=#[t,t] }) ((Fr.of l).ev N)=true:=rfl
 have hj:H j=some (.cells cs):=(hS.has (j,.cells cs) (by simp)).2.2
 have he:zaC P (g0+i) (.call { callee:=.builtin .append,args:=#[x,y],argTypes:=#[t,t] }) ((Fr.of l).ev N) H=none:=by
  simp only [zaC,List.map_cons,List.map_nil,zeC,hx,if_true,zig,hj,hsrc,Option.bind_some]
  split
  ·rw [if_neg (by omega)]
  ·rfl
 simp only [zaT,zbM,opQ,zb0]
 rw [if_pos hold,he]
 simp only [zj0,zo1]
 have hK:zaT P N none g0 ops K (i+1) r ((Fr.of l).put N (some d) (.ms (g0+i) 0 k (m+q) (m+q))) ((H.set j .ice).set (g0+i) (.cells (cs++ds))) g:=by
  rw [zd2 hd]
  exact h _ (hS.ice.add _ hb)
 exact .inr ⟨t,x,y,k,q,ds,rfl,rfl,hk,hf,by rw [zeC];exact hsrc,.inr ⟨hq,.inl ⟨j,0,m,cs,by rw [zeC];exact hx,hj,by omega,hle,hK,hK⟩⟩⟩
theorem zrY {t:TypeId} {x y:Operand} {k k' q:Nat} {ds:List AV} (hS:St O H0 L H b) (hd:d<N) (hx:evL N l x=.sl .nil k' []) (hsrc:zq8 H k (evL N l y)=some (q,ds)) (hk:zaI P t=some k) (hf:zaY P t=true) (hq:0<q) (hle:q<=1048576) (hb:b<=g0+i)
  (h:∀H',St O H0 ((g0+i,.cells ds)::L) H' (g0+i+1)->zaT P N none g0 ops K (i+1) r (Fr.of ((d,.ms (g0+i) 0 k q q)::l)) H' g) :
  zaT P N none g0 ops K i (⟨some d,.call { callee:=.builtin .append,args:=#[x,y],argTypes:=#[t,t] },ty,pos,after,none⟩::r) (Fr.of l) H g:=by
 have hold:old none ops i (.call { callee:=.builtin .append,args:=#[x,y],argTypes:=#[t,t] }) ((Fr.of l).ev N)=true:=rfl
 have hl:zo1 P (g0+i) (.call { callee:=.builtin .append,args:=#[x,y],argTypes:=#[t,t] }) ((Fr.of l).ev N) H fun r' H'=>zaT P N none g0 ops K (i+1) r ((Fr.of l).put N (some d) r') H' g:=by
  simp only [zo1]
  refine ⟨t,x,y,k,q,ds,rfl,rfl,hk,hf,by rw [zeC];exact hsrc,.inr ⟨hq,.inr ⟨.nil,[],.inr ⟨rfl,rfl,k',by rw [zeC];exact hx⟩,.inr rfl,by simpa using hle,?_⟩⟩⟩
  rw [zd2 hd]
  simp only [List.length_nil,Nat.zero_add,List.flatten_nil,List.nil_append]
  exact h _ (hS.add _ hb)
 simp only [zaT,zbM,opQ,zb0]
 rw [if_pos hold]
 split
 ·exact .inr ⟨by trivial,.inr hl⟩
 ·simp only [zj0]
  exact .inr hl
section
variable {κ:Type} [DecidableEq κ] {kv:κ->Value} {ok:κ->Bool} {lim:Option Nat}
theorem zqz {t:TypeId} {q:TypeId×TypeId} {x y:Operand} {j:Nat} {M:List (κ×Int)} {k:κ} {u:Int} (n:Nat) (KK:KeysAre P q.1 ok kv) (hS:St O H0 L H b) (hd:d<N) (hx:evL N l x=.mp j) (hy:zq9 (evL N l y)=some (kv k)) (hn:L[n]?=some (j,.obj none (zaf (mpv kv M)))) (ho:Ok lim ops i j)
  (hq:zgG P t=some q) (hz:zih P q.2=some .i64) (hu:zrF ok M k=some u)
  (h:zaT P N lim g0 ops K (i+1) r (Fr.of ((d,.tup [.v (.int .i64 u),.v (.bool (zbv M k))])::l)) H g):zaT P N lim g0 ops K i (⟨some d,.lookup t x y true,ty,pos,after,none⟩::r) (Fr.of l) H g:=by
 unfold zrF at hu
 split at hu
 case isFalse=>cases hu
 case isTrue hk =>
 injection hu with hu
 have hm:=zrT KK (hS.get hn) hx hy hq hz hk
 refine za6 (v:=.tup [.v (.int .i64 u),.v (.bool (zbv M k))]) (wr:=none) hd rfl ?_ ?_ h
 ·cases hlim:lim with
  | none=>rfl
  | some q=>simpa [old,hx] using ho q hlim
 ·have h2:(zeB (mpv kv M) (kv k)).isSome=zbv M k:=by
   rw [ziQ KK.inj]
   cases zbv M k<;>simp
  simp only [zaC,hm,Option.map_some,if_true,ztu KK.inj,hu,h2]
end
end
end Go.AM
