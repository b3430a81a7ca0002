/-
  The abstract machine: rules for slices whose elements are written to, and that grow.
  Conditions: none; it speaks of any program.
-/
import Derived.Test.YtchhkifidbkjcaaAmZ
set_option linter.all false
namespace Go.AM
open Go Go.RowKit
def zxp (es ds:List (List AV)):Prop:=es.length=ds.length/\(∀(i:Nat) (e d:List AV),es[i]?=some e->ds[i]?=some d->e.length=d.length)/\∀(i j:Nat) (e d:List AV) (c c':AV),es[i]?=some e->ds[i]?=some d->e[j]?=some c->d[j]?=some c'->Le c c'
section
variable {P:Program} {N:Nat} {l:List (Nat×AV)} {H:zaa} {g:Nat} {g0 i:Nat} {ops:Array Oper} {K:Fr->zaa->Nat->Prop} {r:List Oper} {d:Nat} {ty:TypeId} {pos:String} {after:Array Edge}
 {O:Nat->Prop} {H0:zaa} {L:List (Nat×Blk)} {b:Nat}
theorem St.ice {j:Nat} {cs:List AV} (hS:St O H0 ((j,.cells cs)::L) H b):St O H0 L (H.set j .ice) b:=by
 have hj:=hS.has (j,.cells cs) (by simp)
 have hnd:=hS.nd
 simp only [List.map_cons,List.nodup_cons] at hnd
 refine ⟨fun k hk=>⟨(hS.old k hk).1,(zaa.set_ne _ _ (show k≠j from fun e=>hj.1 (by subst e;exact hk))).trans (hS.old k hk).2⟩,fun p hp=>?_,hnd.2,fun k hk=>?_⟩
 ·have:=hS.has p (List.mem_cons_of_mem _ hp)
  refine ⟨this.1,this.2.1,?_⟩
  rw [zaa.set_ne _ _ (fun e=>hnd.1 (List.mem_map.2 ⟨p,hp,e⟩))]
  exact this.2.2
 ·rw [zaa.set_ne _ _ (by have:=hj.2.1;omega)]
  exact hS.fr k hk
theorem zws {t:TypeId} {n k:Nat} {ps:Array (Nat×Operand)} {es:List (List AV)} {e:TypeId} (hS:St O H0 L H b) (hd:d<N) (hk:zaF P t=some k) (he:zcy P t=some e) (hp:zb8 k 0 (ps.toList.map fun q=>(q.1,evL N l q.2))=some es) (hf:za6 P t=true) (hn:es.length=n) (hnk:n*k<=1048576) (hb:b<=g0+i)
  (h:∀H',St O H0 ((g0+i,.cells es.flatten)::L) H' (g0+i+1)->zaL P N none g0 ops K (i+1) r (Fr.of ((d,.ms (g0+i) 0 k n n)::l)) H' g) :
  zaL P N none g0 ops K i (⟨some d,.buildSlice t n ps,ty,pos,after,none⟩::r) (Fr.of l) H g:=by
 have hold:old none ops i (.buildSlice t n ps) ((Fr.of l).ev N)=true:=rfl
 have hev:(ps.toList.map fun q=>(q.1,(Fr.of l).ev N q.2))=ps.toList.map fun q=>(q.1,evL N l q.2):=by simp only [zea]
 have hE:zat P (g0+i) (.buildSlice t n ps) ((Fr.of l).ev N) H=some (.sl (.id (g0+i)) k es,some (g0+i,.row e n)):=by
  simp only [zat,hk,Option.bind_some,hev,hp]
  rw [if_pos ⟨hf,hn,hnk⟩]
  simp only [he,Option.bind_some]
 simp only [zaL,zbs,opQ,zbz]
 rw [if_pos hold,hE]
 refine .inr ⟨by trivial,.inr ?_⟩
 simp only [zpc]
 refine ⟨k,es,hk,by rw [hev];exact hp,hf,hn,hnk,.inl ?_⟩
 rw [zdP hd]
 exact h _ (hS.add _ hb)
theorem znv {t:TypeId} {n k:Nat} {ps:Array (Nat×Operand)} {es:List (List AV)} {e:TypeId} (hd:d<N) (hk:zaF P t=some k) (he:zcy P t=some e) (hp:zb8 k 0 (ps.toList.map fun q=>(q.1,evL N l q.2))=some es) (hf:za6 P t=true) (hn:es.length=n) (hnk:n*k<=1048576)
  (h:zaL P N none g0 ops K (i+1) r (Fr.of ((d,.sl .clip k es)::l)) H g) :
  zaL P N none g0 ops K i (⟨some d,.buildSlice t n ps,ty,pos,after,none⟩::r) (Fr.of l) H g:=by
 have hold:old none ops i (.buildSlice t n ps) ((Fr.of l).ev N)=true:=rfl
 have hev:(ps.toList.map fun q=>(q.1,(Fr.of l).ev N q.2))=ps.toList.map fun q=>(q.1,evL N l q.2):=by simp only [zea]
 have hE:zat P (g0+i) (.buildSlice t n ps) ((Fr.of l).ev N) H=some (.sl (.id (g0+i)) k es,some (g0+i,.row e n)):=by
  simp only [zat,hk,Option.bind_some,hev,hp]
  rw [if_pos ⟨hf,hn,hnk⟩]
  simp only [he,Option.bind_some]
 simp only [zaL,zbs,opQ,zbz]
 rw [if_pos hold,hE]
 refine .inr ⟨by trivial,.inr ?_⟩
 simp only [zpc]
 refine ⟨k,es,hk,by rw [hev];exact hp,hf,hn,hnk,.inr ?_⟩
 rw [zdP hd]
 exact h
theorem zr0 {t:TypeId} {x y:Operand} {j k m q:Nat} {cs ds:List AV} (hS:St O H0 ((j,.cells cs)::L) H b) (hd:d<N) (hx:evL N l x=.ms j 0 k m m) (hcs:cs.length=m*k) (hsrc:zrb H k (evL N l y)=some (q,ds)) (hk:zaF P t=some k) (hf:za6 P t=true) (hm:0<m) (hq:0<q) (hle:m+q<=1048576) (hb:b<=g0+i)
  (h:∀H',St O H0 ((g0+i,.cells (cs++ds))::L) H' (g0+i+1)->zaL P N none g0 ops K (i+1) r (Fr.of ((d,.ms (g0+i) 0 k (m+q) (m+q))::l)) H' g) :
  zaL P N none g0 ops K i (⟨some d,.call { callee:=.builtin .append,args:=#[x,y],argTypes:=#[t,t] },ty,pos,after,none⟩::r) (Fr.of l) H g:=by
 have hold:old none ops i (.call { callee:=.builtin .append,args:=#[x,y],argTypes:=#[t,t] }) ((Fr.of l).ev N)=true:=rfl
 have hj:H j=some (.cells cs):=(hS.has (j,.cells cs) (by simp)).2.2
 have he:zat P (g0+i) (.call { callee:=.builtin .append,args:=#[x,y],argTypes:=#[t,t] }) ((Fr.of l).ev N) H=none:=by
  simp only [zat,List.map_cons,List.map_nil,zea,hx,if_true,zh7,hj,hsrc,Option.bind_some]
  split
  ·rw [if_neg (by omega)]
  ·rfl
 simp only [zaL,zbs,opQ,zbz]
 rw [if_pos hold,he]
 simp only [zjS,zpc]
 have hK:zaL P N none g0 ops K (i+1) r ((Fr.of l).put N (some d) (.ms (g0+i) 0 k (m+q) (m+q))) ((H.set j .ice).set (g0+i) (.cells (cs++ds))) g:=by
  rw [zdP hd]
  exact h _ (hS.ice.add _ hb)
 exact .inr ⟨t,x,y,k,q,ds,rfl,rfl,hk,hf,by rw [zea];exact hsrc,.inr ⟨hq,.inl ⟨j,0,m,cs,by rw [zea];exact hx,hj,by omega,hle,hK,hK⟩⟩⟩
theorem zr1 {t:TypeId} {x y:Operand} {k k' q:Nat} {ds:List AV} (hS:St O H0 L H b) (hd:d<N) (hx:evL N l x=.sl .nil k' []) (hsrc:zrb H k (evL N l y)=some (q,ds)) (hk:zaF P t=some k) (hf:za6 P t=true) (hq:0<q) (hle:q<=1048576) (hb:b<=g0+i)
  (h:∀H',St O H0 ((g0+i,.cells ds)::L) H' (g0+i+1)->zaL P N none g0 ops K (i+1) r (Fr.of ((d,.ms (g0+i) 0 k q q)::l)) H' g) :
  zaL P N none g0 ops K i (⟨some d,.call { callee:=.builtin .append,args:=#[x,y],argTypes:=#[t,t] },ty,pos,after,none⟩::r) (Fr.of l) H g:=by
 have hold:old none ops i (.call { callee:=.builtin .append,args:=#[x,y],argTypes:=#[t,t] }) ((Fr.of l).ev N)=true:=rfl
 have hl:zpc P (g0+i) (.call { callee:=.builtin .append,args:=#[x,y],argTypes:=#[t,t] }) ((Fr.of l).ev N) H fun r' H'=>zaL P N none g0 ops K (i+1) r ((Fr.of l).put N (some d) r') H' g:=by
  simp only [zpc]
  refine ⟨t,x,y,k,q,ds,rfl,rfl,hk,hf,by rw [zea];exact hsrc,.inr ⟨hq,.inr ⟨.nil,[],.inr ⟨rfl,rfl,k',by rw [zea];exact hx⟩,.inr rfl,by simpa using hle,?_⟩⟩⟩
  rw [zdP hd]
  simp only [List.length_nil,Nat.zero_add,List.flatten_nil,List.nil_append]
  exact h _ (hS.add _ hb)
 simp only [zaL,zbs,opQ,zbz]
 rw [if_pos hold]
 split
 ·exact .inr ⟨by trivial,.inr hl⟩
 ·simp only [zjS]
  exact .inr hl
theorem zgX {t:TypeId} {n k:Nat} {e:TypeId} {ps:Array (Nat×Operand)} {es es':List (List AV)} (hS:St O H0 L H b) (hd:d<N) (hk:zaF P t=some k) (he:zcy P t=some e) (hp:zb8 k 0 (ps.toList.map fun q=>(q.1,evL N l q.2))=some es) (hf:za6 P t=true) (hn:es.length=n) (hnk:n*k<=1048576) (hb:b<=g0+i)
  (hle:Le (.sl (.id (g0+i)) k es') (.sl (.id (g0+i)) k es))
  (h:∀H',St O H0 ((g0+i,.row e n)::L) H' (g0+i+1)->zaL P N none g0 ops K (i+1) r (Fr.of ((d,.sl (.id (g0+i)) k es')::l)) H' g):zaL P N none g0 ops K i (⟨some d,.buildSlice t n ps,ty,pos,after,none⟩::r) (Fr.of l) H g :=
 zj1 (v:=.sl (.id (g0+i)) k es) (wr:=some (g0+i,.row e n)) hd rfl rfl (by simp only [zat,hk,hp,Option.bind_some];rw [if_pos ⟨hf,hn,hnk⟩];simp only [he,Option.bind_some]) hle (h _ (hS.add _ hb))
theorem zmy {t:Tag} {k:Nat} {es ds:List (List AV)} (h:zxp es ds):Le (.sl t k es) (.sl t k ds):=by
 obtain ⟨hl,hk,hh⟩:=h
 exact .slE t k es ds hl hk hh
section
variable {κ:Type} [DecidableEq κ] {kv:κ->Value} {ok:κ->Bool} {lim:Option Nat}
theorem zqE {t:TypeId} {q:TypeId×TypeId} {x y:Operand} {j:Nat} {M:List (κ×Int)} {k:κ} {u:Int} (n:Nat) (KK:KeysAre P q.1 ok kv) (hS:St O H0 L H b) (hd:d<N) (hx:evL N l x=.mp j) (hy:zrc (evL N l y)=some (kv k)) (hn:L[n]?=some (j,.obj none (zag (mpv kv M)))) (ho:Ok lim ops i j)
  (hq:zgP P t=some q) (hz:zjb P q.2=some .i64) (hu:zrF ok M k=some u)
  (h:zaL P N lim g0 ops K (i+1) r (Fr.of ((d,.tup [.v (.int .i64 u),.v (.bool (zbt M k))])::l)) H g):zaL P N lim g0 ops K i (⟨some d,.lookup t x y true,ty,pos,after,none⟩::r) (Fr.of l) H g:=by
 unfold zrF at hu
 split at hu
 case isFalse=>cases hu
 case isTrue hk =>
 injection hu with hu
 have hm:=zrW KK (hS.get hn) hx hy hq hz hk
 refine za3 (v:=.tup [.v (.int .i64 u),.v (.bool (zbt M k))]) (wr:=none) hd rfl ?_ ?_ h
 ·cases hlim:lim with
  | none=>rfl
  | some q=>simpa [old,hx] using ho q hlim
 ·have h2:(zex (mpv kv M) (kv k)).isSome=zbt M k:=by
   rw [ziG KK.inj]
   cases zbt M k<;>simp
  simp only [zat,hm,Option.map_some,if_true,ztI KK.inj,hu,h2]
end
end
end Go.AM
