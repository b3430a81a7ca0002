/-
  The abstract machine: queues, and calls of which it is open which blocks they leave.
  Conditions: none; it speaks of any program.
-/
import Derived.Test.YtchhkifidbkjcaaAmMv
set_option linter.all false
namespace Go.AM
open Go Go.RowKit
def zqF (P:Program) (f:FuncId) (as:List AV) (M:BL) (T:Nat->AV->BL->Prop):Prop :=
 ∀H g,za2 H g->Has H M->zq9 P f as H g fun v H' g'=>∃M',T g v M'/\(∀i,i<g->i∉ids M->H' i=H i)/\Has H' M'/\za2 H' g'/\g<=g'/\(ids M').Nodup/\∀i,i∈ids M'->i∈ids M\/g<=i
section
variable {P:Program} {N:Nat} {l:List (Nat×AV)} {H:zaa} {g:Nat} {lim:Option Nat} {g0 i:Nat} {ops:Array Oper} {K:Fr->zaa->Nat->Prop} {r:List Oper} {d:Nat} {ty:TypeId} {pos:String} {after:Array Edge}
 {O:Nat->Prop} {H0:zaa} {L M:BL} {b:Nat}
theorem St.rsat {M':BL} {H':zaa} {g':Nat} (hS:St O H0 (M++L) H b) (hb:b<=g) (h1:∀i,i<g->i∉ids M->H' i=H i) (h2:Has H' M') (h3:za2 H' g') (h4:g<=g') (h5:(ids M').Nodup) (h6:∀i,i∈ids M'->i∈ids M\/g<=i):St O H0 (M'++L) H' g':=by
 have hnd:=hS.nd
 rw [List.map_append,List.nodup_append] at hnd
 have hO:∀i,i∈ids M->¬O i:=fun i hi=>by
  obtain ⟨p,hp,rfl⟩:=List.mem_map.1 hi
  exact (hS.has p (List.mem_append.2 (.inl hp))).1
 refine ⟨fun i hi=>?_,fun p hp=>?_,?_,h3⟩
 ·have:=hS.old i hi
  exact ⟨by omega,by rw [h1 i (by omega) (fun hm=>hO i hm hi)];exact this.2⟩
 ·rcases List.mem_append.1 hp with hp | hp
  ·have hv:=h2 p hp
   refine ⟨fun ho=>?_,?_,hv⟩
   ·rcases h6 p.1 (List.mem_map.2 ⟨p,hp,rfl⟩) with h | h
    ·exact hO _ h ho
    ·have:=(hS.old _ ho).1;omega
   ·rcases Nat.lt_or_ge p.1 g' with h | h
    ·exact h
    ·rw [h3 _ h] at hv;cases hv
  ·obtain ⟨q1,q2,q3⟩:=hS.has p (List.mem_append.2 (.inr hp))
   refine ⟨q1,by omega,?_⟩
   rw [h1 p.1 (by omega) (fun hm=>hnd.2.2 _ hm _ (List.mem_map.2 ⟨p,hp,rfl⟩) rfl)]
   exact q3
 ·rw [List.map_append,List.nodup_append]
  refine ⟨h5,hnd.2.1,fun x hx y hy e=>?_⟩
  subst e
  rcases h6 x hx with h | h
  ·exact hnd.2.2 _ h _ hy rfl
  ·obtain ⟨p,hp,rfl⟩:=List.mem_map.1 hy
   have:=(hS.has p (List.mem_append.2 (.inr hp))).2.1
   omega
theorem zpy {f:Operand} {args:Array Operand} {ts:Array TypeId} {k:FuncId} {first cap bs:List AV} {T:Nat->AV->BL->Prop} (hl:lim=none\/zfe ops (Fr.of l) i=true) (hS:St O H0 (M++L) H b) (hd:d<N) (ht:tgt (evL N l f)=some (k,first,cap)) (ha:first++args.toList.map (evL N l)++cap=bs)
  (hs:zqF P k bs M T) (hb:b<=g)
  (h:∀v M' H' g',T g v M'->g<=g'->St O H0 (M'++L) H' g'->zaL P N lim g0 ops K (i+1) r (Fr.of ((d,v)::l)) H' g') :
  zaL P N lim g0 ops K i (⟨some d,.call { callee:=.value f,args:=args,argTypes:=ts },ty,pos,after,none⟩::r) (Fr.of l) H g :=
 zpj hd ht ha (hs H g (fun j hj=>hS.fr j (Nat.le_trans hb hj)) (fun p hp=>(hS.has p (List.mem_append.2 (.inl hp))).2.2)) hl fun v H' g' ⟨M',hT,h1,h2,h3,h4,h5,h6⟩=>h v M' H' g' hT h4 (hS.rsat hb h1 h2 h3 h4 h5 h6)
def zyG:Blk->Blk->Prop
 | .cells _,.cells _=>True
 | .cells _,.ice=>True
 | .row e _,.row e' _=>e=e'
 | .obj k _,.obj k' _=>k=k'
 | .ice,.ice=>True
 | _,_=>False
theorem zl1 {P : Program} {N : Nat} (hm : P.follows .mixedOrders = true) {f : FuncId} {fn : Func} {c : Code} (hf : P.funcs[f]? = some fn) (hb : fn.body = some c) (hname : fn.name ≠ "runtime.NumGoroutine") (hN : fn.ntmps = N)
  {as:List AV} (hlen:as.length<=N) {M:BL} {T:Nat->AV->BL->Prop} (hex:∀g,∃v M',T g v M'/\(ids M').Nodup/\∀i,i∈ids M'->i∈ids M\/g<=i)
  (h:∀H g,za2 H g->Has H M->wpA P N c (fun e fr H1 _=>(e=.normal\/e=.ret)/\∃v M' b1,T g v M'/\(∃x,zgu P N fr H1 fn.results.toList=some x/\Le v x)/\(∀H,Has H M'->In H v)/\InB In M' /\
   (∀i,i<g/\i∉ids M->H1 i=H i)/\Has H1 M'/\za2 H1 b1/\g<=b1/\(ids M').Nodup/\(∀i,i∈ids M'->i∈ids M\/g<=i)/\(∀p,p∈M->∃y,H1 p.1=some y/\zyG p.2 y/\(p.1∉ids M'->y=.ice))) (zfB as) H g):zqF P f as M T:=fun H g hfr hid=>by
 classical
 have hlt:∀i x,H i=some x->i<g:=fun i x hi=>by
  rcases Nat.lt_or_ge i g with h | h
  ·exact h
  ·rw [hfr i h] at hi;cases hi
 have hMg:∀i,i∈ids M->i<g:=fun i hi=>by
  obtain ⟨p,hp,rfl⟩:=List.mem_map.1 hi
  exact hlt _ _ (hid p hp)
 refine zqs hm hf hb hname hN hlen hfr ?_ (h H g hfr hid) fun e fr H1 g1 ⟨he,v,M',b1,hT,hx,hin,hib,hold,hM',hb1,hgb,hnd,hids,hk⟩=>⟨he,v,fun i=>if i<g then (if i∈ids M then H1 i else H i) else (if i∈ids M' then H1 i else none),b1,?_⟩
 ·obtain ⟨v,M',hT,hnd,hids⟩:=hex g
  obtain ⟨B,hB⟩:∃B,∀i,i∈ids M'->i<B:=by
   clear hT hnd hids
   induction M' with
   | nil=>exact ⟨0,fun i hi=>by simp [ids] at hi⟩
   | cons p M' ih =>
    obtain ⟨B,hB⟩:=ih
    refine ⟨max B (p.1+1),fun i hi=>?_⟩
    rcases List.mem_cons.1 hi with rfl | hi
    ·exact Nat.lt_of_lt_of_le (Nat.lt_succ_self _) (Nat.le_max_right _ _)
    ·have:=hB i hi;omega
  refine ⟨v,fun i=>if i∈ids M' then ((M'.find? fun p=>p.1==i).map (·.2)) else if i<g then (if i∈ids M then none else H i) else none,max g B,M',hT,fun i hi hn=>?_,fun p hp=>?_,fun i hi=>?_,Nat.le_max_left _ _,hnd,hids⟩
  ·have:i∉ids M':=fun hm=>by rcases hids i hm with h | h;exact hn h;omega
   simp only [if_neg this,if_pos hi,if_neg hn]
  ·have hp':p.1∈ids M':=List.mem_map.2 ⟨p,hp,rfl⟩
   simp only [if_pos hp']
   have key:∀(L:BL),p∈L->(ids L).Nodup->(L.find? fun q=>q.1==p.1)=some p:=fun L=>by
    induction L with
    | nil=>intro h;simp at h
    | cons q L ih =>
     intro h1 h2
     simp only [ids,List.map_cons,List.nodup_cons] at h2
     rcases List.mem_cons.1 h1 with rfl | h1
     ·simp
     ·have:q.1≠p.1:=fun e=>h2.1 (e▸List.mem_map.2 ⟨p,h1,rfl⟩)
      rw [List.find?_cons_of_neg (by simpa using this)]
      exact ih h1 h2.2
   rw [key M' hp hnd]
   rfl
  ·have:i∉ids M':=fun hm=>by have:=hB i hm;omega
   have h2:¬i<g:=by omega
   simp only [if_neg this,if_neg h2]
 have hHas:Has (fun i=>if i<g then (if i∈ids M then H1 i else H i) else (if i∈ids M' then H1 i else none)) M':=fun p hp=>by
  have hp':p.1∈ids M':=List.mem_map.2 ⟨p,hp,rfl⟩
  have h1:=hM' p hp
  rcases hids p.1 hp' with h | h
  ·simp only [if_pos (hMg _ h),if_pos h];exact h1
  ·simp only [if_neg (Nat.not_lt.2 h),if_pos hp'];exact h1
 have hM:∀i,i∈ids M->∃x y,H i=some x/\H1 i=some y/\zyG x y/\(i∉ids M'->y=.ice):=fun i hi=>by
  obtain ⟨p,hp,rfl⟩:=List.mem_map.1 hi
  obtain ⟨y,h1,h2,h3⟩:=hk p hp
  exact ⟨p.2,y,hid p hp,h1,h2,h3⟩
 refine ⟨⟨M',hT,fun i hi hn=>by simp only [if_pos hi,if_neg hn],hHas,fun i hi=>?_,hgb,hnd,hids⟩,fun i hi=>?_,hgb,hin _ hHas,fun i hi=>?_,fun i e n hi=>?_,fun i k p hi=>?_,fun i hi hn=>?_,fun i cs hi=>?_,hx,fun i x hi=>?_⟩
 ·have h2:¬i<g:=by omega
  simp only [if_neg h2]
  split
  ·exact hb1 i hi
  ·rfl
 ·have h2:¬i<g:=by omega
  simp only [if_neg h2]
  split
  ·exact hb1 i hi
  ·rfl
 ·have hi':i<g:=by rcases hi with ⟨cs,hi⟩ | hi<;>exact hlt _ _ hi
  unfold zaa.cel
  simp only [if_pos hi']
  by_cases hm:i∈ids M
  ·obtain ⟨x,y,h1,h2,h3,_⟩:=hM i hm
   simp only [if_pos hm,h2]
   rcases hi with ⟨cs,hi⟩ | hi
   ·rw [hi] at h1
    injection h1 with h1
    subst h1
    cases y with
    | cells cs'=>exact .inl ⟨cs',rfl⟩
    | ice=>exact .inr rfl
    | _=>exact h3.elim
   ·rw [hi] at h1
    injection h1 with h1
    subst h1
    cases y with
    | ice=>exact .inr rfl
    | _=>exact h3.elim
  ·simp only [if_neg hm]
   exact hi
 ·have hi':=hlt _ _ hi
  simp only [if_pos hi']
  by_cases hm:i∈ids M
  ·obtain ⟨x,y,h1,h2,h3,_⟩:=hM i hm
   rw [hi] at h1
   injection h1 with h1
   subst h1
   simp only [if_pos hm,h2]
   cases y with
   | row e' n'=>exact ⟨n',by rw [show e=e' from h3]⟩
   | _=>exact h3.elim
  ·exact ⟨n,by simp only [if_neg hm];exact hi⟩
 ·have hi':=hlt _ _ hi
  simp only [if_pos hi']
  by_cases hm:i∈ids M
  ·obtain ⟨x,y,h1,h2,h3,_⟩:=hM i hm
   rw [hi] at h1
   injection h1 with h1
   subst h1
   simp only [if_pos hm,h2]
   cases y with
   | obj k' p'=>exact ⟨p',by rw [show k=k' from h3]⟩
   | _=>exact h3.elim
  ·exact ⟨p,by simp only [if_neg hm];exact hi⟩
 ·simp only [if_pos hi]
  by_cases hm:i∈ids M
  ·obtain ⟨x,y,h1,_⟩:=hM i hm
   rw [hn] at h1;cases h1
  ·simp only [if_neg hm];exact hn
 ·by_cases hM'':i∈ids M'
  ·obtain ⟨p,hp,rfl⟩:=List.mem_map.1 hM''
   have h1:=hi.symm.trans (hHas p hp)
   injection h1 with h1
   exact .inr fun c hc=>hib p cs hp h1.symm c hc _ hHas
  ·by_cases hg:i<g
   ·simp only [if_pos hg] at hi
    by_cases hm:i∈ids M
    ·obtain ⟨x,y,_,h2,_,h4⟩:=hM i hm
     simp only [if_pos hm,h2,h4 hM''] at hi
     cases hi
    ·simp only [if_neg hm] at hi
     exact .inl hi
   ·simp only [if_neg hg,if_neg hM''] at hi
    cases hi
 ·by_cases hg:i<g
  ·simp only [if_pos hg] at hi
   by_cases hm:i∈ids M
   ·simp only [if_pos hm] at hi;exact hi
   ·simp only [if_neg hm] at hi
    rw [hold i ⟨hg,hm⟩];exact hi
  ·simp only [if_neg hg] at hi
   split at hi
   ·exact hi
   ·cases hi
theorem ztL {α:Type} {P:Program} {t:TypeId} {k:Nat} {f:α->List AV} {xs:List (List α)} {z:Int} {u:List α} (ha:zax P t=none) (hs:scalar P t=true) (hu:idx xs z=some u):zdZ P t (xs.map fun x=>AV.sl .no k (x.map f)) (z.toNat*1)=some (.sl .no k (u.map f)):=by
 unfold zdZ
 rw [ha]
 simp only [hs,if_true,Nat.mul_one,List.getElem?_map]
 unfold idx at hu
 split at hu<;>simp_all
def quB {α:Type} (f:α->List AV) (b:Nat) (pre:List AV) (xs:List α):Nat×Blk:=(b,.cells (pre++(xs.map f).flatten))
def quV {α:Type} (k b:Nat) (pre:List AV) (xs:List α):AV:=.ms b pre.length k xs.length xs.length
theorem zr3 {α:Type} {t:TypeId} {x y:Operand} {j k:Nat} {pre:List AV} {z:α} {xs:List α} (hd:d<N) (hx:evL N l x=quV k j pre (z::xs)) (hy:evL N l y=.v (.int .i64 0)) (hk:zaF P t=some k)
  (h:zaL P N lim g0 ops K (i+1) r (Fr.of ((d,.ptr j pre.length)::l)) H g):zaL P N lim g0 ops K i (⟨some d,.indexAddr t x y,ty,pos,after,none⟩::r) (Fr.of l) H g:=by
 refine za3 (wr:=none) hd rfl (by cases lim<;>rfl) ?_ h
 simp only [zat,hx,hy,quV,zfM,Option.bind_some]
 simp [hk]
theorem zoL {α:Type} {t:TypeId} {x:Operand} {j k:Nat} {f:α->List AV} {pre:List AV} {z:α} {xs:List α} (hS:St O H0 (quB f j pre (z::xs)::L) H b) (hd:d<N) (hx:evL N l x=.ptr j pre.length) (ho:Ok lim ops i j) (ha:zax P t=some k) (hfl:∀z,(f z).length=k)
  (h:zaL P N lim g0 ops K (i+1) r (Fr.of ((d,.agg (f z))::l)) H g):zaL P N lim g0 ops K i (⟨some d,.load t x,ty,pos,after,none⟩::r) (Fr.of l) H g:=by
 refine zaK 0 hS hd hx rfl ho ?_ h
 have e:pre++((z::xs).map f).flatten=pre++(f z++(xs.map f).flatten):=by simp
 unfold zdZ
 rw [ha,e]
 simp only
 rw [if_pos (by simp [hfl]),List.drop_left]
 congr 2
 rw [←hfl z,List.take_left]
theorem zqG {α:Type} {t:TypeId} {x y:Operand} {j k:Nat} {f:α->List AV} {pre:List AV} {z:α} {xs:List α} (hd:d<N) (hx:evL N l x=quV k j pre (z::xs)) (hy:evL N l y=.v (.int .i64 1)) (hk:zaF P t=some k) (hfl:∀z,(f z).length=k)
  (h:zaL P N lim g0 ops K (i+1) r (Fr.of ((d,quV k j (pre++f z) xs)::l)) H g):zaL P N lim g0 ops K i (⟨some d,.slice t x (some y) none none,ty,pos,after,none⟩::r) (Fr.of l) H g:=by
 refine zrT 1 (xs.length+1) hd hx hk (by simp [hy,loN,zfM]) (by simp [hiN]) ?_ h
 simp [zvR,quV,hfl]
theorem zvd {α:Type} {f:α->List AV} {j:Nat} {pre:List AV} {z:α} {xs:List α}:quB f j pre (z::xs)=quB f j (pre++f z) xs:=by simp [quB]
end
end Go.AM
