/-
  The abstract machine: rules for slices whose elements are written to, and that grow.
  Conditions: none; it speaks of any program.
-/
import Derived.Test.YtenogpmlhpcibaaGreatAmZ
set_option linter.all false
namespace Go.AM
open Go Go.RowKit
def zAg (es ds:List (List AV)):Prop:=es.length=ds.length/\(∀(i:Nat) (e d:List AV),es[i]?=some e->ds[i]?=some d->e.length=d.length)/\∀(i j:Nat) (e d:List AV) (c c':AV),es[i]?=some e->ds[i]?=some d->e[j]?=some c->d[j]?=some c'->Le c c'
section
variable {P:Program} {N:Nat} {l:List (Nat×AV)} {H:zad} {g:Nat} {g0 i:Nat} {ops:Array Oper} {K:Fr->zad->Nat->Prop} {r:List Oper} {d:Nat} {ty:TypeId} {pos:String} {after:Array Edge}
 {O:Nat->Prop} {H0:zad} {L:List (Nat×Blk)} {b:Nat}
theorem St.ice {j:Nat} {cs:List AV} (hS:St O H0 ((j,.cells cs)::L) H b):St O H0 L (H.set j .ice) b:=by
 have hj:=hS.has (j,.cells cs) (by simp)
 have hnd:=hS.nd
 simp only [List.map_cons,List.nodup_cons] at hnd
 refine ⟨fun k hk=>⟨(hS.old k hk).1,(zad.set_ne _ _ (show k≠j from fun e=>hj.1 (by subst e;exact hk))).trans (hS.old k hk).2⟩,fun p hp=>?_,hnd.2,fun k hk=>?_⟩
 ·have:=hS.has p (List.mem_cons_of_mem _ hp)
  refine ⟨this.1,this.2.1,?_⟩;rw [zad.set_ne _ _ (fun e=>hnd.1 (List.mem_map.2 ⟨p,hp,e⟩))];exact this.2.2
 ·rw [zad.set_ne _ _ (by have:=hj.2.1;omega)];exact hS.fr k hk
theorem zya {t:TypeId} {n k:Nat} {ps:Array (Nat×Operand)} {es:List (List AV)} {e:TypeId} (hS:St O H0 L H b) (hd:d<N) (hk:zaY P t=some k) (he:zcP P t=some e) (hp:zcn k 0 (ps.toList.map fun q=>(q.1,evL N l q.2))=some es) (hf:zbd P t=true) (hn:es.length=n) (hnk:n*k<=1048576) (hb:b<=g0+i)
  (h:∀H',St O H0 ((g0+i,.cells es.flatten)::L) H' (g0+i+1)->za0 P N none g0 ops K (i+1) r (Fr.of ((d,.ms (g0+i) 0 k n n)::l)) H' g) :
  za0 P N none g0 ops K i (⟨some d,.buildSlice t n ps,ty,pos,after,none⟩::r) (Fr.of l) H g:=by
 have hold:old none ops i (.buildSlice t n ps) ((Fr.of l).ev N)=true:=rfl
 have hev:(ps.toList.map fun q=>(q.1,(Fr.of l).ev N q.2))=ps.toList.map fun q=>(q.1,evL N l q.2):=by simp only [zeW]
 have hE:zaI P (g0+i) (.buildSlice t n ps) ((Fr.of l).ev N) H=some (.sl (.id (g0+i)) k es,some (g0+i,.row e n)):=by
  simp only [zaI,hk,Option.bind_some,hev,hp]
  rw [if_pos ⟨hf,hn,hnk⟩];simp only [he,Option.bind_some]
 simp only [za0,zbT,opQ,zb1]
 rw [if_pos hold,hE];refine .inr ⟨by trivial,.inr ?_⟩;simp only [zpH]
 refine ⟨k,es,hk,by rw [hev];exact hp,hf,hn,hnk,.inl ?_⟩;rw [zed hd];exact h _ (hS.add _ hb)
theorem zov {t:TypeId} {n k:Nat} {ps:Array (Nat×Operand)} {es:List (List AV)} {e:TypeId} (hd:d<N) (hk:zaY P t=some k) (he:zcP P t=some e) (hp:zcn k 0 (ps.toList.map fun q=>(q.1,evL N l q.2))=some es) (hf:zbd P t=true) (hn:es.length=n) (hnk:n*k<=1048576)
  (h:za0 P N none g0 ops K (i+1) r (Fr.of ((d,.sl .clip k es)::l)) H g) :
  za0 P N none g0 ops K i (⟨some d,.buildSlice t n ps,ty,pos,after,none⟩::r) (Fr.of l) H g:=by
 have hold:old none ops i (.buildSlice t n ps) ((Fr.of l).ev N)=true:=rfl
 have hev:(ps.toList.map fun q=>(q.1,(Fr.of l).ev N q.2))=ps.toList.map fun q=>(q.1,evL N l q.2):=by simp only [zeW]
 have hE:zaI P (g0+i) (.buildSlice t n ps) ((Fr.of l).ev N) H=some (.sl (.id (g0+i)) k es,some (g0+i,.row e n)):=by
  simp only [zaI,hk,Option.bind_some,hev,hp]
  rw [if_pos ⟨hf,hn,hnk⟩];simp only [he,Option.bind_some]
 simp only [za0,zbT,opQ,zb1]
 rw [if_pos hold,hE];refine .inr ⟨by trivial,.inr ?_⟩;simp only [zpH]
 refine ⟨k,es,hk,by rw [hev];exact hp,hf,hn,hnk,.inr ?_⟩;rw [zed hd];exact h
theorem zuf {t:TypeId} {x y:Operand} {j k m q:Nat} {cs ds:List AV} (hS:St O H0 ((j,.cells cs)::L) H b) (hd:d<N) (hx:evL N l x=.ms j 0 k m m) (hcs:cs.length=m*k) (hsrc:zrF H k (evL N l y)=some (q,ds)) (hk:zaY P t=some k) (hf:zbd P t=true) (hm:0<m) (hq:0<q) (hle:m+q<=1048576) (hb:b<=g0+i)
  (h:∀H',St O H0 ((g0+i,.cells (cs++ds))::L) H' (g0+i+1)->za0 P N none g0 ops K (i+1) r (Fr.of ((d,.ms (g0+i) 0 k (m+q) (m+q))::l)) H' g) :
  za0 P N none g0 ops K i (⟨some d,.call { callee:=.builtin .append,args:=#[x,y],argTypes:=#[t,t] },ty,pos,after,none⟩::r) (Fr.of l) H g:=by
 have hold:old none ops i (.call { callee:=.builtin .append,args:=#[x,y],argTypes:=#[t,t] }) ((Fr.of l).ev N)=true:=rfl
 have hj:H j=some (.cells cs):=(hS.has (j,.cells cs) (by simp)).2.2
 have he:zaI P (g0+i) (.call { callee:=.builtin .append,args:=#[x,y],argTypes:=#[t,t] }) ((Fr.of l).ev N) H=none:=by
  simp only [zaI,List.map_cons,List.map_nil,zeW,hx,if_true,zkd,hj,hsrc,Option.bind_some]
  split
  ·rw [if_neg (by omega)]
  ·rfl
 simp only [za0,zbT,opQ,zb1]
 rw [if_pos hold,he];simp only [zkA,zpH]
 have hK:za0 P N none g0 ops K (i+1) r ((Fr.of l).put N (some d) (.ms (g0+i) 0 k (m+q) (m+q))) ((H.set j .ice).set (g0+i) (.cells (cs++ds))) g:=by
  rw [zed hd];exact h _ (hS.ice.add _ hb)
 exact .inr ⟨t,x,y,k,q,ds,rfl,rfl,hk,hf,by rw [zeW];exact hsrc,.inr ⟨hq,.inl ⟨j,0,m,cs,by rw [zeW];exact hx,hj,by omega,hle,hK,hK⟩⟩⟩
theorem zug {t:TypeId} {x y:Operand} {k q:Nat} {tg:Tag} {es:List (List AV)} {ds:List AV} (hS:St O H0 L H b) (hd:d<N) (hx:evL N l x=.sl tg k es) (htg:tg=.clip\/tg=.nil) (hsrc:zrF H k (evL N l y)=some (q,ds)) (hk:zaY P t=some k) (hf:zbd P t=true) (hq:0<q) (hle:es.length+q<=1048576) (hb:b<=g0+i)
  (h:∀H',St O H0 ((g0+i,.cells (es.flatten++ds))::L) H' (g0+i+1)->za0 P N none g0 ops K (i+1) r (Fr.of ((d,.ms (g0+i) 0 k (es.length+q) (es.length+q))::l)) H' g) :
  za0 P N none g0 ops K i (⟨some d,.call { callee:=.builtin .append,args:=#[x,y],argTypes:=#[t,t] },ty,pos,after,none⟩::r) (Fr.of l) H g:=by
 have hold:old none ops i (.call { callee:=.builtin .append,args:=#[x,y],argTypes:=#[t,t] }) ((Fr.of l).ev N)=true:=rfl
 have hl:zpH P (g0+i) (.call { callee:=.builtin .append,args:=#[x,y],argTypes:=#[t,t] }) ((Fr.of l).ev N) H fun r' H'=>za0 P N none g0 ops K (i+1) r ((Fr.of l).put N (some d) r') H' g:=by
  simp only [zpH]
  refine ⟨t,x,y,k,q,ds,rfl,rfl,hk,hf,by rw [zeW];exact hsrc,.inr ⟨hq,.inr ⟨tg,es,.inl (by rw [zeW];exact hx),htg,hle,?_⟩⟩⟩;rw [zed hd];exact h _ (hS.add _ hb)
 simp only [za0,zbT,opQ,zb1]
 rw [if_pos hold]
 split
 ·exact .inr ⟨by trivial,.inr hl⟩
 ·simp only [zkA]
  exact .inr hl
theorem zuh {t:TypeId} {x y:Operand} {k k' q:Nat} {ds:List AV} (hS:St O H0 L H b) (hd:d<N) (hx:evL N l x=.sl .nil k' []) (hsrc:zrF H k (evL N l y)=some (q,ds)) (hk:zaY P t=some k) (hf:zbd P t=true) (hq:0<q) (hle:q<=1048576) (hb:b<=g0+i)
  (h:∀H',St O H0 ((g0+i,.cells ds)::L) H' (g0+i+1)->za0 P N none g0 ops K (i+1) r (Fr.of ((d,.ms (g0+i) 0 k q q)::l)) H' g) :
  za0 P N none g0 ops K i (⟨some d,.call { callee:=.builtin .append,args:=#[x,y],argTypes:=#[t,t] },ty,pos,after,none⟩::r) (Fr.of l) H g:=by
 have hold:old none ops i (.call { callee:=.builtin .append,args:=#[x,y],argTypes:=#[t,t] }) ((Fr.of l).ev N)=true:=rfl
 have hl:zpH P (g0+i) (.call { callee:=.builtin .append,args:=#[x,y],argTypes:=#[t,t] }) ((Fr.of l).ev N) H fun r' H'=>za0 P N none g0 ops K (i+1) r ((Fr.of l).put N (some d) r') H' g:=by
  simp only [zpH]
  refine ⟨t,x,y,k,q,ds,rfl,rfl,hk,hf,by rw [zeW];exact hsrc,.inr ⟨hq,.inr ⟨.nil,[],.inr ⟨rfl,rfl,k',by rw [zeW];exact hx⟩,.inr rfl,by simpa using hle,?_⟩⟩⟩;rw [zed hd];simp only [List.length_nil,Nat.zero_add,List.flatten_nil,List.nil_append]
  exact h _ (hS.add _ hb)
 simp only [za0,zbT,opQ,zb1]
 rw [if_pos hold]
 split
 ·exact .inr ⟨by trivial,.inr hl⟩
 ·simp only [zkA]
  exact .inr hl
theorem zvJ {α:Type} {t:TypeId} {x y:Operand} {k:Nat} {tg:Tag} {ys zs:List α} {f:α->List AV} (hS:St O H0 L H b) (hd:d<N) (hx:evL N l x=.sl .clip k []) (hy:evL N l y=.sl tg k (ys.map f)) (hk:zaY P t=some k) (hf:zbd P t=true) (hfl:∀z,(f z).length=k) (hz:app ([]:List α) ys=some zs) (hb:b<=g0+i)
  (h:∀H',St O H0 (L++zjm (g0+i) zs.length (zs.map f)) H' (g0+i+1)->za0 P N none g0 ops K (i+1) r (Fr.of ((d,msn (g0+i) k zs.length)::l)) H' g) :
  za0 P N none g0 ops K i (⟨some d,.call { callee:=.builtin .append,args:=#[x,y],argTypes:=#[t,t] },ty,pos,after,none⟩::r) (Fr.of l) H g:=by
 unfold app at hz
 split at hz
 case isFalse=>cases hz
 rename_i hlen
 injection hz with hz
 simp only [List.nil_append] at hz
 subst hz
 have hsrc:zrF H k (evL N l y)=some (ys.length,(ys.map f).flatten):=by rw [hy];simp [zrF]
 by_cases hne:ys=[]
 ·subst hne
  have hold:old none ops i (.call { callee:=.builtin .append,args:=#[x,y],argTypes:=#[t,t] }) ((Fr.of l).ev N)=true:=rfl
  have hl:zpH P (g0+i) (.call { callee:=.builtin .append,args:=#[x,y],argTypes:=#[t,t] }) ((Fr.of l).ev N) H fun r' H'=>za0 P N none g0 ops K (i+1) r ((Fr.of l).put N (some d) r') H' g:=by
   simp only [zpH]
   refine ⟨t,x,y,k,0,[],rfl,rfl,hk,hf,by rw [zeW];exact hsrc,.inl ⟨rfl,.clip,k,[],by rw [zeW];exact hx,?_⟩⟩;rw [zed hd];exact h H (St.unthaw rfl (by simp only [List.map_nil];unfold zid;rw [if_pos rfl,List.append_nil];exact hS.up (by omega)))
  simp only [za0,zbT,opQ,zb1]
  rw [if_pos hold]
  split
  ·exact .inr ⟨by trivial,.inr hl⟩
  ·simp only [zkA]
   exact .inr hl
 ·refine zug hS hd hx (.inl rfl) hsrc hk hf (List.length_pos_iff.2 hne) (by simpa using hlen) hb fun H' hS'=>?_
  have hne':ys.map f≠[]:=fun e=>hne (List.map_eq_nil_iff.1 e)
  have h2:=h H' (St.unthaw (by simp) (by unfold zid;rw [if_neg hne'];exact (hS'.perm (List.perm_append_comm))))
  have e3:msn (g0+i) k ys.length=.ms (g0+i) 0 k (0+ys.length) (0+ys.length):=by
   unfold msn
   rw [if_neg (fun e=>hne (List.eq_nil_of_length_eq_zero e)),Nat.zero_add]
  rw [e3] at h2;exact h2
theorem zkO {t:TypeId} {n k:Nat} {e:TypeId} {ps:Array (Nat×Operand)} {es es':List (List AV)} (hS:St O H0 L H b) (hd:d<N) (hk:zaY P t=some k) (he:zcP P t=some e) (hp:zcn k 0 (ps.toList.map fun q=>(q.1,evL N l q.2))=some es) (hf:zbd P t=true) (hn:es.length=n) (hnk:n*k<=1048576) (hb:b<=g0+i)
  (hle:Le (.sl (.id (g0+i)) k es') (.sl (.id (g0+i)) k es))
  (h:∀H',St O H0 ((g0+i,.row e n)::L) H' (g0+i+1)->za0 P N none g0 ops K (i+1) r (Fr.of ((d,.sl (.id (g0+i)) k es')::l)) H' g):za0 P N none g0 ops K i (⟨some d,.buildSlice t n ps,ty,pos,after,none⟩::r) (Fr.of l) H g :=
 zmu (v:=.sl (.id (g0+i)) k es) (wr:=some (g0+i,.row e n)) hd rfl rfl (by simp only [zaI,hk,hp,Option.bind_some];rw [if_pos ⟨hf,hn,hnk⟩];simp only [he,Option.bind_some]) hle (h _ (hS.add _ hb))
theorem zrT {t:Tag} {k:Nat} {es ds:List (List AV)} (h:zAg es ds):Le (.sl t k es) (.sl t k ds):=by
 obtain ⟨hl,hk,hh⟩:=h;exact .slE t k es ds hl hk hh
theorem zrU {e d:List AV} (h:LeL e d):zAg [e] [d]:=by
 refine ⟨rfl,fun i a b h1 h2=>?_,fun i j a b c c' h1 h2 h3 h4=>?_⟩
 ·rcases i with _ | i<;>simp at h1 h2
  subst h1 h2
  exact h.get.1
 ·rcases i with _ | i<;>simp at h1 h2
  subst h1 h2
  exact h.get.2 j _ _ h3 h4
section
variable {κ:Type} [DecidableEq κ] {kv:κ->Value} {ok:κ->Bool} {lim:Option Nat}
end
end
end Go.AM
