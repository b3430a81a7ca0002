/-
  The abstract machine: a region whose order is open.
  Conditions: none; it speaks of any program.
-/
import Derived.Test.YtchhkifidbkjcaaAmI
set_option linter.all false
namespace Go.AM
open Go Go.RowKit
section
variable {P:Program} {N g0:Nat} {ops:Array Oper}
def zez (P:Program) (N g0:Nat) (ops:Array Oper) (i:Nat) (o:Oper) (fr:Fr) (H:zaa) (r:AV) (wr:Option (Nat×Blk)):Prop :=
 match zbz o.op with
 | some (f,args) =>
  match tgt (fr.ev N f) with
  | some (k,first,cap)=>(zaR P k (first++args.toList.map (fr.ev N)++cap) r/\wr=none) \/
   (∃r' b,zh8 P k (first++args.toList.map (fr.ev N)++cap) r' b/\r=r' (g0+i)/\wr=b.map fun x=>(g0+i,x)) \/
   (∃id cs ds,zp6 (some g0) ops i id=true/\H id=some (.cells cs)/\zfN P k (first++args.toList.map (fr.ev N)++cap) id cs r ds/\wr=some (id,.cells ds)) \/
   (∃id d cs x,zlD (some g0) ops i id=true/\(first++args.toList.map (fr.ev N)++cap)[0]?=some (.ptr id d)/\H id=some (.cells cs)/\zfN P k (first++args.toList.map (fr.ev N)++cap) id cs r (cs.set d x)/\wr=some (id,.cells (cs.set d x)))
  | none=>False
 | none=>old (some g0) ops i o.op (fr.ev N)=true/\zat P (g0+i) o.op (fr.ev N) H=some (r,wr)
def za7 (P:Program) (N g0:Nat) (ops:Array Oper) (i:Nat) (o:Oper) (fr:Fr) (H:zaa) (r:AV) (wr:Option (Nat×Blk)):Prop :=
 match o.guard with
 | none=>zez P N g0 ops i o fr H r wr
 | some (j,want)=>match gd ops N fr j with
  | some b=>if b=some want then zez P N g0 ops i o fr H r wr else r=.tup []/\wr=none
  | none=>False
def zhk (P:Program) (N g0:Nat) (ops:Array Oper) (i:Nat) (o:Oper) (K:Fr->zaa->Nat->Prop) (fr:Fr) (H:zaa) (g:Nat):Prop :=
 zfe ops fr i=true/\match zbz o.op with
 | some (f,args)=>match tgt (fr.ev N f) with
  | some (k,first,cap)=>zq9 P k (first++args.toList.map (fr.ev N)++cap) H g fun r H' g'=>K (fr.put N o.dst r) H' g'
  | none=>∃q M r M',yOf (fr.ev N f)=some q/\zvT P q.1 q.2.1 q.2.2 (args.toList.map (fr.ev N)) M r M'/\Has H M/\K (fr.put N o.dst r) (H.puts M') g
 | none=>∃r wr,zat P (g0+i) o.op (fr.ev N) H=some (r,wr)/\K (fr.put N o.dst r) (H.patch wr) g
def zeS (P:Program) (N g0:Nat) (ops:Array Oper) (i:Nat) (o:Oper) (K:Fr->zaa->Nat->Prop) (fr:Fr) (H:zaa) (g:Nat):Prop :=
 match o.guard with
 | none=>zhk P N g0 ops i o K fr H g
 | some (j,want)=>gd ops N fr j=some (some want)/\zhk P N g0 ops i o K fr H g
theorem zhk.mono {i:Nat} {o:Oper} {K K':Fr->zaa->Nat->Prop} (hk:∀fr H g,K fr H g->K' fr H g) {fr:Fr} {H:zaa} {g:Nat} (h:zhk P N g0 ops i o K fr H g):zhk P N g0 ops i o K' fr H g:=by
 unfold zhk at h ⊢
 refine ⟨h.1,?_⟩
 replace h:=h.2
 cases hc:zbz o.op with
 | none =>
  simp only [hc] at h ⊢
  obtain ⟨r,wr,h1,h2⟩:=h
  exact ⟨r,wr,h1,hk _ _ _ h2⟩
 | some q =>
  obtain ⟨f,args⟩:=q
  simp only [hc] at h ⊢
  cases ht:tgt (fr.ev N f) with
  | some q =>
   obtain ⟨k,first,cap⟩:=q
   simp only [ht] at h ⊢
   exact h.mono fun _ _ _=>hk _ _ _
  | none =>
   simp only [ht] at h ⊢
   obtain ⟨q,M,r,M',h1,h2,h3,h4⟩:=h
   exact ⟨q,M,r,M',h1,h2,h3,hk _ _ _ h4⟩
theorem zeS.mono {i:Nat} {o:Oper} {K K':Fr->zaa->Nat->Prop} (hk:∀fr H g,K fr H g->K' fr H g) {fr:Fr} {H:zaa} {g:Nat} (h:zeS P N g0 ops i o K fr H g):zeS P N g0 ops i o K' fr H g:=by
 unfold zeS at h ⊢
 cases hg:o.guard with
 | none=>simp only [hg] at h ⊢;exact h.mono hk
 | some q=>obtain ⟨j,want⟩:=q;simp only [hg] at h ⊢;exact ⟨h.1,h.2.mono hk⟩
theorem zeS.piv {i:Nat} {o:Oper} {K:Fr->zaa->Nat->Prop} {fr:Fr} {H:zaa} {g:Nat} (h:zeS P N g0 ops i o K fr H g):zfe ops fr i=true:=by
 unfold zeS at h
 cases hg:o.guard with
 | none=>simp only [hg] at h;exact h.1
 | some q=>obtain ⟨j,want⟩:=q;simp only [hg] at h;exact h.2.1
theorem zrq {i:Nat} {o:Oper} {K:Fr->zaa->Nat->Prop} {fr:Fr} {H:zaa} {g:Nat} :
  opQ P N (some g0) g0 ops i o K fr H g↔(∃r wr,zez P N g0 ops i o fr H r wr/\K (fr.put N o.dst r) (H.patch wr) g)\/zhk P N g0 ops i o K fr H g:=by
 unfold opQ zez zhk
 cases hc:zbz o.op with
 | some q =>
  obtain ⟨f,args⟩:=q
  simp only
  cases ht:tgt (fr.ev N f) with
  | none =>
   simp only [reduceCtorEq,false_or,false_and,exists_false]
  | some q =>
   obtain ⟨k,first,cap⟩:=q
   simp only [zeR]
   constructor
   ·rintro (⟨r,hs,hk⟩ | ⟨r,b,hs,hk⟩ | ⟨h,hs⟩ | ⟨id,cs,r,ds,hm,hc,hs,hk⟩ | ⟨id,d,cs,r,x,hm,ha,hc,hs,hk⟩)
    ·exact .inl ⟨r,none,.inl ⟨hs,rfl⟩,hk⟩
    ·exact .inl ⟨_,_,.inr (.inl ⟨r,b,hs,rfl,rfl⟩),hk⟩
    ·exact .inr ⟨by simpa using h,hs⟩
    ·exact .inl ⟨r,some (id,.cells ds),.inr (.inr (.inl ⟨id,cs,ds,hm,hc,hs,rfl⟩)),hk⟩
    ·exact .inl ⟨r,some (id,.cells (cs.set d x)),.inr (.inr (.inr ⟨id,d,cs,x,hm,ha,hc,hs,rfl⟩)),hk⟩
   ·rintro (⟨r,wr,(⟨hs,rfl⟩ | ⟨r',b,hs,rfl,rfl⟩ | ⟨id,cs,ds,hm,hc,hs,rfl⟩ | ⟨id,d,cs,x,hm,ha,hc,hs,rfl⟩),hk⟩ | ⟨h,hs⟩)
    ·exact .inl ⟨r,hs,hk⟩
    ·exact .inr (.inl ⟨r',b,hs,hk⟩)
    ·exact .inr (.inr (.inr (.inl ⟨id,cs,r,ds,hm,hc,hs,hk⟩)))
    ·exact .inr (.inr (.inr (.inr ⟨id,d,cs,r,x,hm,ha,hc,hs,hk⟩)))
    ·exact .inr (.inr (.inl ⟨by simp [h],hs⟩))
 | none =>
  simp only
  by_cases ho:old (some g0) ops i o.op (fr.ev N)=true
  ·rw [if_pos ho]
   cases he:zat P (g0+i) o.op (fr.ev N) H with
   | none=>simp
   | some q =>
    obtain ⟨r,wr⟩:=q
    simp only
    constructor
    ·exact fun h=>.inl ⟨r,wr,⟨ho,rfl⟩,h.elim id fun h=>by cases h.1⟩
    ·rintro (⟨r',wr',⟨_,h⟩,hk⟩ | ⟨_,r',wr',h,hk⟩)
     ·injection h with h
      injection h with h1 h2
      subst h1 h2
      exact .inl hk
     ·injection h with h
      injection h with h1 h2
      subst h1 h2
      exact .inl hk
  ·rw [if_neg ho]
   constructor
   ·exact fun h=>.inr h
   ·rintro (⟨r,wr,⟨h,_⟩,_⟩ | h)
    ·exact (ho h).elim
    ·exact h
theorem zba {i:Nat} {o:Oper} {K:Fr->zaa->Nat->Prop} {fr:Fr} {H:zaa} {g:Nat} :
  zbs P N (some g0) g0 ops i o K fr H g↔(∃r wr,za7 P N g0 ops i o fr H r wr/\K (fr.put N o.dst r) (H.patch wr) g)\/zeS P N g0 ops i o K fr H g:=by
 unfold zbs za7 zeS
 cases hg:o.guard with
 | none=>exact zrq
 | some q =>
  obtain ⟨j,want⟩:=q
  simp only
  cases hb:gd ops N fr j with
  | none=>simp
  | some b =>
   simp only
   by_cases hw:b=some want
   ·simp only [if_pos hw]
    rw [zrq]
    simp [hw]
   ·simp only [if_neg hw]
    constructor
    ·exact fun h=>.inl ⟨.tup [],none,⟨rfl,rfl⟩,h⟩
    ·rintro (⟨r,wr,⟨rfl,rfl⟩,hk⟩ | ⟨h,_⟩)
     ·exact hk
     ·injection h with h
      exact (hw h).elim
theorem zgV {op:Op} {f:Operand} {args:Array Operand} (h:zbz op=some (f,args)):∃ts,op=.call { callee:=.value f,args:=args,argTypes:=ts }:=by
 unfold zbz at h
 split at h
 ·rename_i f' args' ts
  injection h with h
  injection h with h1 h2
  subst h1 h2
  exact ⟨ts,rfl⟩
 ·cases h
theorem zj0 {fr fr':Fr} {x:Operand} (h:∀t,x=.tmp t->fr t=fr' t):fr.ev N x=fr'.ev N x:=by
 cases x with
 | tmp t=>simp only [Fr.ev,h t rfl]
 | const v=>rfl
 | global g=>rfl
 | func f=>rfl
theorem zd0 {α:Type} {ρ ρ':Operand->α} {xs:Array Operand} (h:∀x,x∈xs->ρ x=ρ' x):xs.toList.map ρ=xs.toList.map ρ':=List.map_congr_left fun x hx=>h x (by simpa using hx)
theorem zhl {α:Type} {ρ ρ':Operand->α} {o:Option Operand} (h:∀x,o=some x->ρ x=ρ' x):o.map ρ=o.map ρ':=by
 cases o with
 | none=>rfl
 | some x=>simp [h x rfl]
theorem zkw {new:Nat} {op:Op} {ρ ρ':Operand->AV} {H:zaa} (h:∀x,x∈op.operands->ρ x=ρ' x):zat P new op ρ H=zat P new op ρ' H:=by
 cases op<;>try rfl
 case move x=>simp only [zat,h x (by simp [Op.operands])]
 case assign x=>simp only [zat,h x (by simp [Op.operands])]
 case pick c a b=>simp only [zat,h c (by simp [Op.operands]),h a (by simp [Op.operands]),h b (by simp [Op.operands])]
 case box t x=>simp only [zat,h x (by simp [Op.operands])]
 case build t ps =>
  have:(ps.toList.map fun q=>(q.1,ρ q.2))=ps.toList.map fun q=>(q.1,ρ' q.2):=List.map_congr_left fun q hq=>by
   rw [h q.2 (by simp only [Op.operands,List.mem_toArray];exact List.mem_map.2 ⟨q,hq,rfl⟩)]
  simp only [zat,this]
 case buildSlice t n ps =>
  have:(ps.toList.map fun q=>(q.1,ρ q.2))=ps.toList.map fun q=>(q.1,ρ' q.2):=List.map_congr_left fun q hq=>by
   rw [h q.2 (by simp only [Op.operands,List.mem_toArray];exact List.mem_map.2 ⟨q,hq,rfl⟩)]
  simp only [zat,this]
 case makeMap t r=>cases r<;>rfl
 case makeSlice t x y=>simp only [zat,h x (by simp [Op.operands]),h y (by simp [Op.operands])]
 case lookup t x ix ok=>simp only [zat,h x (by simp [Op.operands]),h ix (by simp [Op.operands])]
 case mapUpdate t x ix v=>simp only [zat,h x (by simp [Op.operands]),h ix (by simp [Op.operands]),h v (by simp [Op.operands])]
 case insert t x ix v=>simp only [zat,h x (by simp [Op.operands]),h ix (by simp [Op.operands]),h v (by simp [Op.operands])]
 case mapEntry t x ix=>simp only [zat,h x (by simp [Op.operands]),h ix (by simp [Op.operands])]
 case entryStore t x s v=>simp only [zat,h x (by simp [Op.operands]),h s (by simp [Op.operands]),h v (by simp [Op.operands])]
 case load t x=>simp only [zat,h x (by simp [Op.operands])]
 case store t a x=>simp only [zat,h a (by simp [Op.operands]),h x (by simp [Op.operands])]
 case nilCheck x=>simp only [zat,h x (by simp [Op.operands])]
 case binOp op t x y t2=>simp only [zat,h x (by simp [Op.operands]),h y (by simp [Op.operands])]
 case unOp op t x=>simp only [zat,h x (by simp [Op.operands])]
 case convert s d x=>simp only [zat,h x (by simp [Op.operands])]
 case makeFunc fn first cap =>
  simp only [zat,zd0 fun x hx=>h x (by simp only [Op.operands];exact Array.mem_append.2 (.inl hx)),zd0 fun x hx=>h x (by simp only [Op.operands];exact Array.mem_append.2 (.inr hx))]
 case fieldAddr s x f=>simp only [zat,h x (by simp [Op.operands])]
 case field s x f=>simp only [zat,h x (by simp [Op.operands])]
 case indexAddr t x i=>simp only [zat,h x (by simp [Op.operands]),h i (by simp [Op.operands])]
 case extract x k=>simp only [zat,h x (by simp [Op.operands])]
 case index t x i=>simp only [zat,h x (by simp [Op.operands]),h i (by simp [Op.operands])]
 case slice t x lo hi mx =>
  have h1:=h x (by simp [Op.operands])
  have h2:lo.map ρ=lo.map ρ':=zhl fun y hy=>h y (by simp [Op.operands,hy])
  have h3:hi.map ρ=hi.map ρ':=zhl fun y hy=>h y (by simp [Op.operands,hy])
  have h4:mx.map ρ=mx.map ρ':=zhl fun y hy=>h y (by simp [Op.operands,hy])
  simp only [zat,h1,h2,h3,h4]
 case call c =>
  obtain ⟨callee,args,argTypes⟩:=c
  cases callee with
  | value f=>rfl
  | invoke r m=>rfl
  | builtin b =>
   have:args.toList.map ρ=args.toList.map ρ':=zd0 fun x hx=>h x (by simp only [Op.operands,Call.operands];exact Array.mem_append.2 (.inr hx))
   simp only [zat,this]
theorem zrr {lim:Option Nat} {i:Nat} {op:Op} {ρ ρ':Operand->AV} (h:∀x,x∈op.operands->ρ x=ρ' x):old lim ops i op ρ=old lim ops i op ρ':=by
 cases lim with
 | none=>rfl
 | some g0 =>
  cases op<;>try rfl
  case load t x=>simp only [old,h x (by simp [Op.operands])]
  case store t a x=>simp only [old,h a (by simp [Op.operands])]
  case lookup t x ix ok=>simp only [old,h x (by simp [Op.operands])]
  case mapEntry t x ix=>simp only [old,h x (by simp [Op.operands])]
  case call c =>
   obtain ⟨callee,args,argTypes⟩:=c
   cases callee with
   | value f=>rfl
   | invoke r m=>rfl
   | builtin b =>
    have:args.toList.map ρ=args.toList.map ρ':=zd0 fun x hx=>h x (by simp only [Op.operands,Call.operands];exact Array.mem_append.2 (.inr hx))
    cases b<;>simp only [old,this]
theorem ziy {o:Oper} {t:Nat} (h:.tmp t∈o.op.operands):t∈o.looksAt ops:=by
 unfold Oper.looksAt
 refine List.mem_append.2 (.inl (List.mem_filterMap.2 ⟨.tmp t,by simpa using h,rfl⟩))
theorem zez.congr {i:Nat} {o:Oper} {fr fr':Fr} {H:zaa} {r:AV} {wr:Option (Nat×Blk)} (hfr:∀t,t∈o.looksAt ops->fr t=fr' t) (h:zez P N g0 ops i o fr H r wr):zez P N g0 ops i o fr' H r wr:=by
 have hx:∀x,x∈o.op.operands->fr.ev N x=fr'.ev N x:=fun x hx=>zj0 fun t ht=>hfr t (ziy (ht▸hx))
 unfold zez at h ⊢
 split at h
 ·rename_i f args hco
  obtain ⟨ts,hop⟩:=zgV hco
  rw [hop] at hx
  have h1:fr.ev N f=fr'.ev N f:=hx f (by simp [Op.operands,Call.operands])
  have h2:args.toList.map (fr.ev N)=args.toList.map (fr'.ev N):=zd0 fun x hx'=>hx x (by simp only [Op.operands,Call.operands];exact Array.mem_append.2 (.inr hx'))
  rw [h1,h2] at h
  exact h
 ·rw [←zrr hx,←zkw hx]
  exact h
theorem za7.congr {i:Nat} {o:Oper} {fr fr':Fr} {H:zaa} {r:AV} {wr:Option (Nat×Blk)} (hfr:∀t,t∈o.looksAt ops->fr t=fr' t) (h:za7 P N g0 ops i o fr H r wr):za7 P N g0 ops i o fr' H r wr:=by
 unfold za7 at h ⊢
 cases hg:o.guard with
 | none =>
  simp only [hg] at h ⊢
  exact h.congr hfr
 | some q =>
  obtain ⟨j,want⟩:=q
  simp only [hg] at h ⊢
  have hgd:gd ops N fr j=gd ops N fr' j:=by
   unfold gd
   cases hd:(ops[j]?).bind (·.dst) with
   | none=>rfl
   | some d =>
    simp only
    rw [zj0 (fr:=fr) (fr':=fr') fun t ht=>hfr t ?_]
    injection ht with ht
    subst ht
    unfold Oper.looksAt
    exact List.mem_append.2 (.inr (by simp [hg,hd]))
  rw [←hgd]
  cases hb:gd ops N fr j with
  | none=>simp [hb] at h
  | some b =>
   simp only [hb] at h ⊢
   by_cases hw:b=some want
   ·simp only [if_pos hw] at h ⊢
    exact h.congr hfr
   ·simp only [if_neg hw] at h ⊢
    exact h
def zml (g0:Nat) (ops:Array Oper) (i id:Nat):Prop:=id<g0\/behind ops ops.size i (id-g0)=true/\g0<=id
def zrs (g0:Nat) (ops:Array Oper) (i:Nat) (kd:Kd) (H:zaa) (rd:Option Nat) (wr:Option (Nat×Blk)):Prop :=
 (rd=none/\wr=none)\/match kd with
 | .pure=>False
 | .reads=>∃id cs,rd=some id/\wr=none/\H id=some (.cells cs)/\zml g0 ops i id
 | .makes=>rd=none/\∃b,wr=some (g0+i,b)
 | .mread=>∃id p,rd=some id/\wr=none/\H id=some (.obj none p)/\zml g0 ops i id
 | .mwrite=>∃id p p',rd=some id/\wr=some (id,.obj none p')/\H id=some (.obj none p)/\zml g0 ops i id
 | .writes=>∃id cs ds,rd=some id/\wr=some (id,.cells ds)/\H id=some (.cells cs)/\zml g0 ops i id
 | .calls=>(rd=none/\∃b,wr=some (g0+i,b))\/∃id cs ds,rd=some id/\wr=some (id,.cells ds)/\H id=some (.cells cs)/\zml g0 ops i id
 | .grows=>(rd=none/\∃b,wr=some (g0+i,b))\/∃id e n m,rd=some id/\wr=some (id,.row e m)/\H id=some (.row e n)/\zml g0 ops i id
theorem zhm {i b:Nat} (h:(decide (b<g0) || behind ops ops.size i (b-g0))=true):zml g0 ops i b:=by
 rcases Nat.lt_or_ge b g0 with h1 | h1
 ·exact .inl h1
 ·simp only [Bool.or_eq_true,decide_eq_true_eq] at h
  exact .inr ⟨h.resolve_left (by omega),h1⟩
theorem zqm {i:Nat} {op:Op} {ρ:Operand->AV} {H:zaa} {r:AV} {wr:Option (Nat×Blk)} (ho:old (some g0) ops i op ρ=true) (h:zat P (g0+i) op ρ H=some (r,wr)) :
  ∃rd,zrs g0 ops i (zvU op) H rd wr/\∀H':zaa,(∀id,rd=some id->H' id=H id)->zat P (g0+i) op ρ H'=some (r,wr):=by
 cases op<;>try (simp only [zat] at h;cases h;done)
 case move x =>
  refine ⟨none,.inl ⟨rfl,?_⟩,fun H' _=>h⟩
  simp only [zat] at h
  injection h with h
  injection h with _ h
  exact h.symm
 case assign x =>
  refine ⟨none,.inl ⟨rfl,?_⟩,fun H' _=>h⟩
  simp only [zat] at h
  injection h with h
  injection h with _ h
  exact h.symm
 case makeFunc fn first cap =>
  refine ⟨none,.inl ⟨rfl,?_⟩,fun H' _=>h⟩
  simp only [zat] at h
  injection h with h
  injection h with _ h
  exact h.symm
 case pick c a b =>
  refine ⟨none,.inl ⟨rfl,?_⟩,fun H' _=>h⟩
  simp only [zat] at h
  split at h<;>first | (injection h with h;injection h with _ h;exact h.symm) | (cases h;done)
 case nilCheck x =>
  refine ⟨none,.inl ⟨rfl,?_⟩,fun H' _=>h⟩
  simp only [zat] at h
  split at h<;>first | (injection h with h;injection h with _ h;exact h.symm) | (cases h;done)
 case unOp op t x =>
  refine ⟨none,.inl ⟨rfl,?_⟩,fun H' _=>h⟩
  simp only [zat] at h
  split at h<;>first | (injection h with h;injection h with _ h;exact h.symm) | (cases h;done)
 case convert s d x =>
  refine ⟨none,.inl ⟨rfl,?_⟩,fun H' _=>h⟩
  simp only [zat] at h
  split at h<;>first | (injection h with h;injection h with _ h;exact h.symm) | (cases h;done)
 case binOp op t x y t2 =>
  refine ⟨none,.inl ⟨rfl,?_⟩,fun H' _=>h⟩
  simp only [zat] at h
  obtain ⟨_,_,h⟩:=Option.map_eq_some_iff.1 h
  injection h with _ h
  exact h.symm
 case slice t x lo hi mx =>
  refine ⟨none,.inl ⟨rfl,?_⟩,fun H' _=>h⟩
  simp only [zat] at h
  obtain ⟨_,_,h⟩:=Option.map_eq_some_iff.1 h
  injection h with _ h
  exact h.symm
 case extract x k =>
  refine ⟨none,.inl ⟨rfl,?_⟩,fun H' _=>h⟩
  simp only [zat] at h
  split at h
  ·obtain ⟨_,_,h⟩:=Option.map_eq_some_iff.1 h
   injection h with _ h
   exact h.symm
  ·cases h
 case lookup t x ix ok =>
  simp only [zat] at h
  obtain ⟨q,hq,h⟩:=Option.map_eq_some_iff.1 h
  injection h with h1 h2
  obtain ⟨p,e1,e2⟩:=zjZ hq
  refine ⟨some q.1,.inr ⟨q.1,p,rfl,h2.symm,e2,?_⟩,fun H' hH=>?_⟩
  ·simp only [old,e1] at ho
   exact zhm ho
  ·simp only [zat,zjf (hH q.1 rfl) hq,Option.map_some,h1,h2]
 case mapUpdate=>simp [old] at ho
 case insert=>simp [old] at ho
 case mapEntry t x ix =>
  simp only [zat] at h
  obtain ⟨q,hq,h⟩:=Option.map_eq_some_iff.1 h
  obtain ⟨p,e1,e2⟩:=zjZ hq
  have hok:zml g0 ops i q.1:=by
   simp only [old,e1] at ho
   exact zhm ho
  refine ⟨some q.1,?_,fun H' hH=>by simp only [zat,zjf (hH q.1 rfl) hq,Option.map_some,h]⟩
  split at h
  ·injection h with _ h
   exact .inr ⟨q.1,p,_,rfl,h.symm,e2,hok⟩
  ·injection h with _ h
   exact .inr ⟨q.1,p,_,rfl,h.symm,e2,hok⟩
 case entryStore=>simp [old] at ho
 case makeMap t r =>
  cases r with
  | some _=>simp [zat] at h
  | none =>
   refine ⟨none,.inr ⟨rfl,?_⟩,fun H' _=>h⟩
   simp only [zat] at h
   obtain ⟨_,_,h⟩:=Option.map_eq_some_iff.1 h
   injection h with _ h
   exact ⟨_,h.symm⟩
 case alloc t =>
  refine ⟨none,.inr ⟨rfl,?_⟩,fun H' _=>h⟩
  simp only [zat] at h
  obtain ⟨_,_,h⟩:=Option.map_eq_some_iff.1 h
  injection h with _ h
  exact ⟨_,h.symm⟩
 case box t x =>
  refine ⟨none,.inr ⟨rfl,?_⟩,fun H' _=>h⟩
  simp only [zat] at h
  obtain ⟨_,_,h⟩:=Option.map_eq_some_iff.1 h
  injection h with _ h
  exact ⟨_,h.symm⟩
 case build t ps =>
  refine ⟨none,.inl ⟨rfl,?_⟩,fun H' _=>h⟩
  simp only [zat] at h
  obtain ⟨_,_,h⟩:=Option.bind_eq_some_iff.1 h
  obtain ⟨_,_,h⟩:=Option.bind_eq_some_iff.1 h
  obtain ⟨_,_,h⟩:=Option.map_eq_some_iff.1 h
  injection h with _ h
  exact h.symm
 case makeSlice t x y =>
  refine ⟨none,?_,fun H' _=>h⟩
  simp only [zat] at h
  obtain ⟨_,_,h⟩:=Option.bind_eq_some_iff.1 h
  obtain ⟨_,_,h⟩:=Option.bind_eq_some_iff.1 h
  obtain ⟨_,_,h⟩:=Option.bind_eq_some_iff.1 h
  split at h
  ·split at h
   ·injection h with h
    injection h with _ h
    exact .inl ⟨rfl,h.symm⟩
   ·injection h with h
    injection h with _ h
    exact .inr ⟨rfl,_,h.symm⟩
  ·cases h
 case buildSlice t n ps =>
  refine ⟨none,.inr ⟨rfl,?_⟩,fun H' _=>h⟩
  simp only [zat] at h
  obtain ⟨_,_,h⟩:=Option.bind_eq_some_iff.1 h
  obtain ⟨_,_,h⟩:=Option.bind_eq_some_iff.1 h
  split at h
  ·obtain ⟨_,_,h⟩:=Option.bind_eq_some_iff.1 h
   injection h with h
   injection h with _ h
   exact ⟨_,h.symm⟩
  ·cases h
 case load t x =>
  simp only [zat] at h
  split at h
  ·rename_i b off hx
   split at h
   ·rename_i cs hcs
    obtain ⟨r',hr,h⟩:=Option.map_eq_some_iff.1 h
    injection h with h1 h2
    subst h1 h2
    simp only [old,hx] at ho
    refine ⟨some b,.inr ⟨b,cs,rfl,rfl,hcs,zhm ho⟩,fun H' hH=>?_⟩
    simp only [zat,hx,hH b rfl,hcs,hr,Option.map_some]
   ·cases h
  ·rename_i cs hx
   obtain ⟨r',hr,h⟩:=Option.map_eq_some_iff.1 h
   injection h with h1 h2
   subst h1 h2
   exact ⟨none,.inl ⟨rfl,rfl⟩,fun H' _=>by simp only [zat,hx,hr,Option.map_some]⟩
  ·cases h
 case store t a x =>
  simp only [zat] at h
  split at h
  ·rename_i b off ha
   split at h
   ·rename_i cs hcs
    obtain ⟨ns,hns,h⟩:=Option.bind_eq_some_iff.1 h
    split at h
    ·rename_i hc
     injection h with h
     injection h with h1 h2
     subst h1 h2
     simp only [old,ha] at ho
     refine ⟨some b,.inr ⟨b,cs,_,rfl,rfl,hcs,zhm ho⟩,fun H' hH=>?_⟩
     simp only [zat,ha,hH b rfl,hcs,hns,Option.bind_some,if_pos hc]
    ·cases h
   ·cases h
  ·cases h
 case fieldAddr s x f =>
  refine ⟨none,.inl ⟨rfl,?_⟩,fun H' _=>h⟩
  simp only [zat] at h
  obtain ⟨_,_,h⟩:=Option.bind_eq_some_iff.1 h
  split at h<;>first | (injection h with h;injection h with _ h;exact h.symm) | (cases h;done)
 case index t x j =>
  refine ⟨none,.inl ⟨rfl,?_⟩,fun H' _=>h⟩
  simp only [zat] at h
  obtain ⟨_,_,h⟩:=Option.bind_eq_some_iff.1 h
  obtain ⟨_,_,h⟩:=Option.bind_eq_some_iff.1 h
  split at h
  ·split at h
   ·obtain ⟨_,_,h⟩:=Option.map_eq_some_iff.1 h
    injection h with _ h
    exact h.symm
   ·cases h
  ·cases h
 case field s x f =>
  refine ⟨none,.inl ⟨rfl,?_⟩,fun H' _=>h⟩
  simp only [zat] at h
  obtain ⟨_,_,h⟩:=Option.bind_eq_some_iff.1 h
  split at h
  ·obtain ⟨_,_,h⟩:=Option.map_eq_some_iff.1 h
   injection h with _ h
   exact h.symm
  ·cases h
 case indexAddr t x j =>
  refine ⟨none,.inl ⟨rfl,?_⟩,fun H' _=>h⟩
  simp only [zat] at h
  obtain ⟨_,_,h⟩:=Option.bind_eq_some_iff.1 h
  split at h
  ·split at h
   ·obtain ⟨_,_,h⟩:=Option.map_eq_some_iff.1 h
    injection h with _ h
    exact h.symm
   ·cases h
  ·split at h
   ·injection h with h
    injection h with _ h
    exact h.symm
   ·cases h
  ·obtain ⟨_,_,h⟩:=Option.bind_eq_some_iff.1 h
   split at h
   ·injection h with h
    injection h with _ h
    exact h.symm
   ·cases h
  ·obtain ⟨_,_,h⟩:=Option.bind_eq_some_iff.1 h
   split at h
   ·injection h with h
    injection h with _ h
    exact h.symm
   ·cases h
  ·cases h
 case call c =>
  obtain ⟨callee,args,argTypes⟩:=c
  cases callee with
  | value f=>cases h
  | invoke r m=>cases h
  | builtin b =>
   cases b<;>simp only [zat] at h<;>try (cases h;done)
   case len =>
    refine ⟨none,.inl ⟨rfl,?_⟩,fun H' _=>by simp only [zat];exact h⟩
    split at h
    ·split at h
     ·injection h with h
      injection h with _ h
      exact h.symm
     ·cases h
    ·split at h
     ·injection h with h
      injection h with _ h
      exact h.symm
     ·cases h
    ·cases h
   case clear=>simp [old] at ho
   case min =>
    refine ⟨none,.inl ⟨rfl,?_⟩,fun H' _=>by simp only [zat];exact h⟩
    obtain ⟨_,_,h⟩:=Option.map_eq_some_iff.1 h
    injection h with _ h
    exact h.symm
   case max =>
    refine ⟨none,.inl ⟨rfl,?_⟩,fun H' _=>by simp only [zat];exact h⟩
    obtain ⟨_,_,h⟩:=Option.map_eq_some_iff.1 h
    injection h with _ h
    exact h.symm
   case append =>
    split at h
    ·rename_i s x t u hs hts
     split at h
     ·rename_i htu
      split at h
      ·simp [old,hs] at ho
      rename_i hnm
      have key:∃rd,zrs g0 ops i .grows H rd wr/\∀H':zaa,(∀id,rd=some id->H' id=H id)->zeQ P t (g0+i) H' s x=some (r,wr):=by
       unfold zeQ at h
       split at h
       case h_3=>cases h
       case h_2 =>
        refine ⟨none,.inr (.inl ⟨rfl,?_⟩),fun H' _=>by unfold zeQ;exact h⟩
        split at h
        ·injection h with h
         injection h with _ h
         exact ⟨_,h.symm⟩
        ·cases h
       rename_i tg k es tg' k' xs
       split at h
       ·rename_i hc
        cases tg with
        | no=>cases h
        | fr=>cases h
        | od=>cases h
        | nil =>
         refine ⟨none,.inr (.inl ⟨rfl,?_⟩),fun H' _=>by unfold zeQ;simp only [if_pos hc];exact h⟩
         obtain ⟨_,_,h⟩:=Option.bind_eq_some_iff.1 h
         obtain ⟨_,_,h⟩:=Option.bind_eq_some_iff.1 h
         injection h with h
         injection h with _ h
         exact ⟨_,h.symm⟩
        | clip =>
         refine ⟨none,.inr (.inl ⟨rfl,?_⟩),fun H' _=>by unfold zeQ;simp only [if_pos hc];exact h⟩
         simp only at h
         split at h
         ·obtain ⟨_,_,h⟩:=Option.bind_eq_some_iff.1 h
          injection h with h
          injection h with _ h
          exact ⟨_,h.symm⟩
         ·cases h
        | id τ =>
         simp only at h
         split at h
         ·rename_i e n hτ
          split at h
          ·rename_i hc2
           injection h with h
           injection h with h1 h2
           subst h1 h2
           have hold:(decide (τ<g0) || behind ops ops.size i (τ-g0))=true:=by
            simpa only [old,hs,List.getElem?_cons_zero] using ho
           exact ⟨some τ,.inr (.inr ⟨τ,e,n,_,rfl,rfl,hτ,zhm hold⟩),fun H' hH=>by unfold zeQ;simp only [if_pos hc,hH τ rfl,hτ,if_pos hc2]⟩
          ·cases h
         ·cases h
       ·cases h
      obtain ⟨rd,h1,h2⟩:=key
      refine ⟨rd,h1,fun H' hH=>?_⟩
      simp only [zat,hs,hts,if_pos htu]
      exact h2 H' hH
     ·cases h
    ·cases h
end
end Go.AM
