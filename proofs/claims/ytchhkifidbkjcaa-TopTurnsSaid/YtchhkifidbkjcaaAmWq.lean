/-
  The abstract machine: queues within calls of which the outcome is open.
  Conditions: none; it speaks of any program.
-/
import Derived.Test.YtchhkifidbkjcaaAmKs
import Derived.Test.YtchhkifidbkjcaaPlA
set_option linter.all false
namespace Go.AM
open Go Go.RowKit
section
variable {P:Program} {N:Nat} {l:List (Nat×AV)} {H:zaa} {g:Nat} {lim:Option Nat} {g0 i:Nat} {ops:Array Oper} {K:Fr->zaa->Nat->Prop} {r:List Oper} {d:Nat} {ty:TypeId} {pos:String} {after:Array Edge}
 {O:Nat->Prop} {H0:zaa} {L:BL} {b:Nat}
theorem znA {α:Type}:∀(l:List α) (n:Nat) (h:n<l.length),(l[n]::l.eraseIdx n).Perm l
 | x::l,0,_=>.refl _
 | x::l,n+1,h=>(List.Perm.swap x (l[n]'(by simpa using h)) (l.eraseIdx n)).trans ((znA l n (by simpa using h)).cons x)
theorem St.toHead {L':BL} (hS:St O H0 L H b) (n:Nat) (h:n<L.length) (he:L[n]::L.eraseIdx n=L'):St O H0 L' H b:=hS.perm (he▸znA L n h)
theorem St.iceK {j:Nat} {cs:List AV} (hS:St O H0 ((j,.cells cs)::L) H b):St O H0 ((j,.ice)::L) (H.set j .ice) b:=hS.put (n:=0) rfl .ice
theorem zqJ {t:TypeId} {x y:Operand} {j off k m q:Nat} {cs ds:List AV} (hS:St O H0 ((j,.cells cs)::L) H b) (hd:d<N) (hx:evL N l x=.ms j off k m m) (hcs:cs.length=off+m*k) (hsrc:zrb H k (evL N l y)=some (q,ds)) (hk:zaF P t=some k) (hf:za6 P t=true) (hq:0<q) (hle:m+q<=1048576) (hb:b<=g0+i)
  (h:∀H' off' cs',(cs'=cs/\off'=off\/cs'=cs.drop off/\off'=0)->St O H0 ((g0+i,.cells (cs'++ds))::(j,.ice)::L) H' (g0+i+1)->zaL P N none g0 ops K (i+1) r (Fr.of ((d,.ms (g0+i) off' k (m+q) (m+q))::l)) H' g) :
  zaL P N none g0 ops K i (⟨some d,.call { callee:=.builtin .append,args:=#[x,y],argTypes:=#[t,t] },ty,pos,after,none⟩::r) (Fr.of l) H g:=by
 have hold:old none ops i (.call { callee:=.builtin .append,args:=#[x,y],argTypes:=#[t,t] }) ((Fr.of l).ev N)=true:=rfl
 have hj:H j=some (.cells cs):=(hS.has (j,.cells cs) (by simp)).2.2
 have he:zat P (g0+i) (.call { callee:=.builtin .append,args:=#[x,y],argTypes:=#[t,t] }) ((Fr.of l).ev N) H=none:=by
  simp only [zat,List.map_cons,List.map_nil,zea,hx,if_true,zh7,hj,hsrc,Option.bind_some]
  split
  ·rw [if_neg (by omega)]
  ·rfl
 simp only [zaL,zbs,opQ,zbz]
 rw [if_pos hold,he]
 simp only [zjS,zpc]
 refine .inr ⟨t,x,y,k,q,ds,rfl,rfl,hk,hf,by rw [zea];exact hsrc,.inr ⟨hq,.inl ⟨j,off,m,cs,by rw [zea];exact hx,hj,hcs,hle,?_,?_⟩⟩⟩
 ·rw [zdP hd]
  exact h _ off cs (.inl ⟨rfl,rfl⟩) (hS.iceK.add _ hb)
 ·rw [zdP hd]
  exact h _ 0 (cs.drop off) (.inr ⟨rfl,rfl⟩) (hS.iceK.add _ hb)
theorem zqK {α:Type} {t:TypeId} {x y:Operand} {j k:Nat} {f:α->List AV} {pre:List AV} {xs ys:List α} (hS:St O H0 (quB f j pre xs::L) H b) (hd:d<N) (hx:evL N l x=quV k j pre xs) (hfl:∀z,(f z).length=k) (hsrc:zrb H k (evL N l y)=some (ys.length,(ys.map f).flatten)) (hk:zaF P t=some k) (hf:za6 P t=true) (hq:0<ys.length) (hle:xs.length+ys.length<=1048576) (hb:b<=g0+i)
  (h:∀H' pre',(pre'=pre\/pre'=[])->St O H0 (quB f (g0+i) pre' (xs++ys)::(j,.ice)::L) H' (g0+i+1)->zaL P N none g0 ops K (i+1) r (Fr.of ((d,quV k (g0+i) pre' (xs++ys))::l)) H' g) :
  zaL P N none g0 ops K i (⟨some d,.call { callee:=.builtin .append,args:=#[x,y],argTypes:=#[t,t] },ty,pos,after,none⟩::r) (Fr.of l) H g:=by
 have hlen:(xs.map f).flatten.length=xs.length*k:=by
  have:=(zcr (k:=k) (xs.map f) (fun e he=>by obtain ⟨z,_,rfl⟩:=List.mem_map.1 he;exact hfl z)).1
  simpa using this
 refine zqJ (k:=k) (m:=xs.length) (off:=pre.length) hS hd hx (by rw [List.length_append,hlen]) hsrc hk hf hq hle hb fun H' off' cs' h1 hS'=>?_
 rcases h1 with ⟨rfl,rfl⟩ | ⟨rfl,rfl⟩
 ·have:=h H' pre (.inl rfl) (by
   unfold quB
   rw [List.map_append,List.flatten_append,←List.append_assoc]
   exact hS')
  unfold quV at this
  rw [List.length_append] at this
  exact this
 ·have:=h H' [] (.inr rfl) (by
   unfold quB
   rw [List.map_append,List.flatten_append,List.nil_append]
   rw [List.drop_left] at hS'
   exact hS')
  unfold quV at this
  rw [List.length_append] at this
  exact this
end
section
variable {P:Program} {N:Nat} {l:List (Nat×AV)} {H:zaa} {g:Nat} {g0 i:Nat} {ops:Array Oper} {K:Fr->zaa->Nat->Prop} {r:List Oper} {d:Nat} {ty:TypeId} {pos:String} {after:Array Edge}
theorem zqL {x:Operand} {n:Nat} {vs:List AV} {v v':AV} (hd:d<N) (hx:evL N l x=.tup vs) (hn:vs[n]?=some v) (hle:Le v' v) (h:zaL P N none g0 ops K (i+1) r (Fr.of ((d,v')::l)) H g):zaL P N none g0 ops K i (⟨some d,.extract x n,ty,pos,after,none⟩::r) (Fr.of l) H g :=
 zj1 (v:=v) (wr:=none) hd rfl rfl (by simp [zat,hx,hn]) hle h
end
section
variable {κ ν:Type} [DecidableEq κ]
theorem zbc:∀{M:List (κ×ν)} {k:κ},zbt M k=true↔k∈M.map (·.1)
 | [],k=>by simp [zbt]
 | p::M,k=>by
  simp only [zbt,List.map_cons,List.mem_cons]
  by_cases e:p.1=k
  ·simp [e]
  ·rw [if_neg e,zbc]
   constructor
   ·exact .inr
   ·rintro (h | h)
    ·exact absurd h.symm e
    ·exact h
theorem zgB:∀{M:List (κ×ν)} {k:κ} {v:ν},(zf8 M k v).map (·.1)=if zbt M k=true then M.map (·.1) else M.map (·.1)++[k]
 | [],k,v=>by simp [zf8,zbt]
 | p::M,k,v=>by
  by_cases e:p.1=k
  ·simp [zf8,zbt,e]
  ·have h1:zf8 (p::M) k v=p::zf8 M k v:=by simp [zf8,e]
   have h2:zbt (p::M) k=zbt M k:=by simp [zbt,e]
   rw [h1,h2,List.map_cons,zgB,List.map_cons]
   split<;>simp
theorem zig {M:List (κ×ν)} {k:κ} {v:ν} (h:(M.map (·.1)).Nodup):((zf8 M k v).map (·.1)).Nodup:=by
 rw [zgB]
 split
 ·exact h
 ·rename_i hn
  rw [List.nodup_append]
  refine ⟨h,by simp,fun a ha b hb e=>?_⟩
  simp only [List.mem_singleton] at hb
  subst hb e
  exact hn (zbc.2 ha)
theorem ziK:∀{M:List (κ×ν)} {k:κ} {v:ν} {p:κ×ν},(M.map (·.1)).Nodup->(p∈zf8 M k v↔p=(k,v)\/p∈M/\p.1≠k)
 | [],k,v,p,_=>by simp [zf8]
 | x::M,k,v,p,h=>by
  simp only [List.map_cons,List.nodup_cons] at h
  simp only [zf8]
  by_cases e:x.1=k
  ·rw [if_pos e]
   simp only [List.mem_cons]
   constructor
   ·rintro (h1 | h1)
    ·exact .inl h1
    ·exact .inr ⟨.inr h1,fun e2=>h.1 (List.mem_map.2 ⟨p,h1,e2.trans e.symm⟩)⟩
   ·rintro (h1 | ⟨h1 | h1,h2⟩)
    ·exact .inl h1
    ·exact absurd (h1▸e) h2
    ·exact .inr h1
  ·rw [if_neg e]
   simp only [List.mem_cons]
   rw [ziK h.2]
   constructor
   ·rintro (h1 | h1 | ⟨h1,h2⟩)
    ·exact .inr ⟨.inl h1,h1▸e⟩
    ·exact .inl h1
    ·exact .inr ⟨.inr h1,h2⟩
   ·rintro (h1 | ⟨h1 | h1,h2⟩)
    ·exact .inr (.inl h1)
    ·exact .inl h1
    ·exact .inr (.inr ⟨h1,h2⟩)
theorem zgC (z:ν):∀{M:List (κ×ν)} {k:κ},zbt M k=true->(k,zgO z M k)∈M
 | [],k,h=>by simp [zbt] at h
 | p::M,k,h=>by
  by_cases e:p.1=k
  ·simp only [zgO,if_pos e]
   exact List.mem_cons.2 (.inl (by rw [←e]))
  ·simp only [zbt,if_neg e] at h
   simp only [zgO,if_neg e]
   exact List.mem_cons_of_mem _ (zgC z h)
theorem zpB (z:ν):∀{M:List (κ×ν)} {k:κ} {v:ν},(M.map (·.1)).Nodup->(k,v)∈M->zgO z M k=v
 | [],k,v,_,h=>by simp at h
 | p::M,k,v,hn,h=>by
  simp only [List.map_cons,List.nodup_cons] at hn
  rcases List.mem_cons.1 h with rfl | h
  ·simp [zgO]
  ·have:p.1≠k:=fun e=>hn.1 (List.mem_map.2 ⟨(k,v),h,e.symm⟩)
   simp only [zgO,if_neg this]
   exact zpB z hn.2 h
theorem ziL {M:List (κ×ν)} (h:(M.map (·.1)).Nodup):M.Nodup:=by
 rw [List.nodup_iff_pairwise_ne] at h ⊢
 exact (List.pairwise_map.1 h).imp fun hn e=>hn (congrArg Prod.fst e)
end
theorem ztQ {P:Program} {f keys1:FuncId} (h:zpz P f keys1) {H:zaa} {g j:Nat} (hfr:za2 H g):Sat P f [.mp j] H g (.fn (.func keys1) [] [.ptr g 0]) (H.set g (.cells [.mp j])) (g+1) :=
 ⟨h.1,fun G w vs hp hv=>((zr5 h j).2 G H g g w vs hfr (hfr g (Nat.le_refl _)) hp hv).mono fun en w' ⟨v,G',h1,h2,h3,h4⟩=>⟨v,G',h1,h2,⟨fun i hi=>by rw [zaa.set_ne _ _ (by omega)];exact hfr i (by omega),by omega,fun i hi hn=>by rw [zaa.set_ne _ _ (by omega)];exact hn⟩,h3,h4⟩⟩
section
variable {P:Program} {N:Nat} {l:List (Nat×AV)} {H:zaa} {g:Nat} {lim:Option Nat} {g0 i:Nat} {ops:Array Oper} {K:Fr->zaa->Nat->Prop} {r:List Oper} {d:Nat} {ty:TypeId} {pos:String} {after:Array Edge}
 {O:Nat->Prop} {H0:zaa} {L:BL} {b:Nat}
theorem zvg {f:Operand} {args:Array Operand} {ts:Array TypeId} {k keys1:FuncId} {j:Nat} (hl:lim=none\/zfe ops (Fr.of l) i=true) (hS:St O H0 L H b) (hd:d<N) (ht:tgt (evL N l f)=some (k,[],[])) (ha:args.toList.map (evL N l)=[.mp j]) (hs:zpz P k keys1) (hb:b<=g)
  (h:∀H',St O H0 ((g,.cells [.mp j])::L) H' (g+1)->zaL P N lim g0 ops K (i+1) r (Fr.of ((d,.fn (.func keys1) [] [.ptr g 0])::l)) H' (g+1)) :
  zaL P N lim g0 ops K i (⟨some d,.call { callee:=.value f,args:=args,argTypes:=ts },ty,pos,after,none⟩::r) (Fr.of l) H g :=
 zie hd ht (by rw [ha];rfl) (ztQ hs fun j hj=>hS.fr j (Nat.le_trans hb hj)) hl (h _ (hS.add _ hb))
end
section
variable {P:Program} {N:Nat} {l:List (Nat×AV)} {H:zaa} {g:Nat} {lim:Option Nat} {g0 i:Nat} {ops:Array Oper} {K:Fr->zaa->Nat->Prop} {r:List Oper} {d:Nat} {ty:TypeId} {pos:String} {after:Array Edge}
 {O:Nat->Prop} {H0:zaa} {L:BL} {b:Nat}
end
structure KeptK (H H1:zaa):Prop where
 cel:∀i,H.cel i->H1.cel i
 row:∀i e n,H i=some (.row e n)->∃n',H1 i=some (.row e n')
 obj:∀i k p,H i=some (.obj k p)->∃p',H1 i=some (.obj k p')
theorem zoO {P : Program} {N : Nat} (hm : P.follows .mixedOrders = true) {f : FuncId} {fn : Func} {c : Code} (hf : P.funcs[f]? = some fn) (hb : fn.body = some c) (hname : fn.name ≠ "runtime.NumGoroutine") (hN : fn.ntmps = N)
  {as:List AV} (hlen:as.length<=N) {H:zaa} {g:Nat} {T:AV->zaa->Nat->Prop} (hfr:za2 H g) (hex:∃r H' g',T r H' g')
  {Q:Exit->Fr->zaa->Nat->Prop} (h:wpA P N c Q (zfB as) H g)
  (hQ:∀e fr H1 g1,KeptK H H1->Q e fr H1 g1->(e=.normal\/e=.ret)/\∃r H' g',T r H' g'/\za2 H' g'/\g<=g'/\In H' r/\(∀i,H.cel i->H'.cel i)/\(∀i e n,H i=some (.row e n)->∃n',H' i=some (.row e n'))/\(∀i k p,H i=some (.obj k p)->∃p',H' i=some (.obj k p'))/\(∀i,i<g->H i=none->H' i=none) /\
   (∀i cs,H' i=some (.cells cs)->H i=some (.cells cs)\/∀c,c∈cs->In H' c)/\(∃x,zgu P N fr H1 fn.results.toList=some x/\Le r x)/\∀i x,H' i=some x->H1 i=some x):zq9 P f as H g T:=by
 refine ⟨⟨fn,c,hf,hb,hname⟩,hex,fun G w vs hp ha=>?_⟩
 refine callsIn_wide.1 (callsIn_of_wp_marks (n:=0) (F:=Fence.wide) hf hb trivial (zgy hm c none 0 G H w _ _ _ _ _ _ _ (.inl rfl) h (zhQ hN hlen hp ha) hfr fun e fr H1 g1 a' w' hq S' _=>?_) rfl)
 have hkk:KeptK H H1:=by
  obtain ⟨G1,hp1,hE,_⟩:=S'
  exact ⟨fun i hi=>(hE.evo.cells i hi).2,fun i e n hi=>(hE.evo.row i e n hi).2.imp fun n' h=>h.1,fun i k p hi=>(hE.evo.obj i k p hi).2⟩
 obtain ⟨he,r,H',g',hT,hfr',hgg,hin,hc,hr,ho,hno,hcl,⟨x,hx,hle⟩,hsub⟩:=hQ _ _ _ _ hkk hq
 obtain ⟨G1,hp1,hE,⟨Ds,hd1,hd2,hd3⟩,_,hv⟩:=S'
 have hfin:LeavesInM Fence.wide 0 P fn a'.tmps (fun e w'=>∃v G' r H' g',T r H' g'/\e=.returned v/\Hp G' H' w'/\(za2 H' g'/\g<=g'/\∀i,i<g->H i=none->H' i=none)/\Ext G H w G' H' w'/\VR G' H' w' r v) a'.defers .returning w':=by
  rw [hd1]
  refine zdO Ds w' hp1 hE hd2 hd3 fun w2 hp2 hE2 hev=>?_
  obtain ⟨v,hrun,hvr⟩:=zeU (P:=P) (fn:=fn) hp2 (fun t ht=>(hv t ht).evo hev) hx
  obtain ⟨q1,q2⟩:=zfD hp hp2 hE2 hsub hc hr ho hcl
  exact ⟨v,hrun,v,G1,r,H',g',hT,rfl,q1,⟨hfr',hgg,hno⟩,q2,(hvr.le hle).back hsub hin⟩
 rcases he with rfl | rfl
 ·exact hfin
 ·exact hfin
theorem zkK {P : Program} {N : Nat} (hm : P.follows .mixedOrders = true) {f : FuncId} {fn : Func} {c : Code} (hf : P.funcs[f]? = some fn) (hb : fn.body = some c) (hname : fn.name ≠ "runtime.NumGoroutine") (hN : fn.ntmps = N)
  {as:List AV} (hlen:as.length<=N) {M:BL} {T:Nat->AV->BL->Prop} (hex:∀g,∃v M',T g v M'/\(ids M').Nodup/\∀i,i∈ids M'->i∈ids M\/g<=i)
  (h:∀H g,za2 H g->Has H M->wpA P N c (fun e fr H1 _=>(e=.normal\/e=.ret)/\∃v M' b1,T g v M'/\(∃x,zgu P N fr H1 fn.results.toList=some x/\Le v x)/\(∀H,Has H M'->In H v)/\InB In M' /\
   (∀i,i<g/\i∉ids M->H1 i=H i)/\Has H1 M'/\za2 H1 b1/\g<=b1/\(ids M').Nodup/\(∀i,i∈ids M'->i∈ids M\/g<=i)/\(∀p,p∈M->p.1∉ids M'->p.2≠.ice/\∀cs,p.2≠.cells cs)) (zfB as) H g):zqF P f as M T:=fun H g hfr hid=>by
 classical
 have hlt:∀i x,H i=some x->i<g:=fun i x hi=>by
  rcases Nat.lt_or_ge i g with h | h
  ·exact h
  ·rw [hfr i h] at hi;cases hi
 have hMg:∀i,i∈ids M->i<g:=fun i hi=>by
  obtain ⟨p,hp,rfl⟩:=List.mem_map.1 hi
  exact hlt _ _ (hid p hp)
 refine zoO hm hf hb hname hN hlen hfr ?_ (h H g hfr hid) fun e fr H1 g1 hkk ⟨he,v,M',b1,hT,hx,hin,hib,hold,hM',hb1,hgb,hnd,hids,hk⟩=>⟨he,v,fun i=>if i<g then (if i∈ids M then H1 i else H i) else (if i∈ids M' then H1 i else none),b1,?_⟩
 ·obtain ⟨v,M',hT,hnd,hids⟩:=hex g
  obtain ⟨B,hB⟩:∃B,∀i,i∈ids M'->i<B:=by
   clear hT hnd hids
   induction M' with
   | nil=>exact ⟨0,fun i hi=>by simp [ids] at hi⟩
   | cons p M' ih =>
    obtain ⟨B,hB⟩:=ih
    refine ⟨max B (p.1+1),fun i hi=>?_⟩
    rcases List.mem_cons.1 hi with rfl | hi
    ·exact Nat.lt_of_lt_of_le (Nat.lt_succ_self _) (Nat.le_max_right _ _)
    ·have:=hB i hi;omega
  refine ⟨v,fun i=>if i∈ids M' then ((M'.find? fun p=>p.1==i).map (·.2)) else if i<g then (if i∈ids M then none else H i) else none,max g B,M',hT,fun i hi hn=>?_,fun p hp=>?_,fun i hi=>?_,Nat.le_max_left _ _,hnd,hids⟩
  ·have:i∉ids M':=fun hm=>by rcases hids i hm with h | h;exact hn h;omega
   simp only [if_neg this,if_pos hi,if_neg hn]
  ·have hp':p.1∈ids M':=List.mem_map.2 ⟨p,hp,rfl⟩
   simp only [if_pos hp']
   have key:∀(L:BL),p∈L->(ids L).Nodup->(L.find? fun q=>q.1==p.1)=some p:=fun L=>by
    induction L with
    | nil=>intro h;simp at h
    | cons q L ih =>
     intro h1 h2
     simp only [ids,List.map_cons,List.nodup_cons] at h2
     rcases List.mem_cons.1 h1 with rfl | h1
     ·simp
     ·have:q.1≠p.1:=fun e=>h2.1 (e▸List.mem_map.2 ⟨p,h1,rfl⟩)
      rw [List.find?_cons_of_neg (by simpa using this)]
      exact ih h1 h2.2
   rw [key M' hp hnd]
   rfl
  ·have:i∉ids M':=fun hm=>by have:=hB i hm;omega
   have h2:¬i<g:=by omega
   simp only [if_neg this,if_neg h2]
 have hHas:Has (fun i=>if i<g then (if i∈ids M then H1 i else H i) else (if i∈ids M' then H1 i else none)) M':=fun p hp=>by
  have hp':p.1∈ids M':=List.mem_map.2 ⟨p,hp,rfl⟩
  have h1:=hM' p hp
  rcases hids p.1 hp' with h | h
  ·simp only [if_pos (hMg _ h),if_pos h];exact h1
  ·simp only [if_neg (Nat.not_lt.2 h),if_pos hp'];exact h1
 refine ⟨⟨M',hT,fun i hi hn=>by simp only [if_pos hi,if_neg hn],hHas,fun i hi=>?_,hgb,hnd,hids⟩,fun i hi=>?_,hgb,hin _ hHas,fun i hi=>?_,fun i e n hi=>?_,fun i k p hi=>?_,fun i hi hn=>?_,fun i cs hi=>?_,hx,fun i x hi=>?_⟩
 ·have h2:¬i<g:=by omega
  simp only [if_neg h2]
  split
  ·exact hb1 i hi
  ·rfl
 ·have h2:¬i<g:=by omega
  simp only [if_neg h2]
  split
  ·exact hb1 i hi
  ·rfl
 ·have hi':i<g:=by rcases hi with ⟨cs,hi⟩ | hi<;>exact hlt _ _ hi
  have h3:=hkk.cel i hi
  unfold zaa.cel at h3 ⊢
  simp only [if_pos hi']
  by_cases hm:i∈ids M
  ·simp only [if_pos hm];exact h3
  ·simp only [if_neg hm]
   exact hi
 ·have hi':=hlt _ _ hi
  simp only [if_pos hi']
  by_cases hm:i∈ids M
  ·simp only [if_pos hm];exact hkk.row i e n hi
  ·exact ⟨n,by simp only [if_neg hm];exact hi⟩
 ·have hi':=hlt _ _ hi
  simp only [if_pos hi']
  by_cases hm:i∈ids M
  ·simp only [if_pos hm];exact hkk.obj i k p hi
  ·exact ⟨p,by simp only [if_neg hm];exact hi⟩
 ·simp only [if_pos hi]
  by_cases hm:i∈ids M
  ·obtain ⟨p,hp,rfl⟩:=List.mem_map.1 hm
   rw [hid p hp] at hn;cases hn
  ·simp only [if_neg hm];exact hn
 ·by_cases hM'':i∈ids M'
  ·obtain ⟨p,hp,rfl⟩:=List.mem_map.1 hM''
   have h1:=hi.symm.trans (hHas p hp)
   injection h1 with h1
   exact .inr fun c hc=>hib p cs hp h1.symm c hc _ hHas
  ·by_cases hg:i<g
   ·simp only [if_pos hg] at hi
    by_cases hm:i∈ids M
    ·simp only [if_pos hm] at hi
     obtain ⟨p,hp,rfl⟩:=List.mem_map.1 hm
     obtain ⟨k1,k2⟩:=hk p hp hM''
     have h0:=hid p hp
     cases hpb:p.2 with
     | cells ds=>exact absurd hpb (k2 ds)
     | ice=>exact absurd hpb k1
     | row e n =>
      rw [hpb] at h0
      obtain ⟨n',h1⟩:=hkk.row _ e n h0
      rw [hi] at h1;cases h1
     | obj k q =>
      rw [hpb] at h0
      obtain ⟨q',h1⟩:=hkk.obj _ k q h0
      rw [hi] at h1;cases h1
    ·simp only [if_neg hm] at hi
     exact .inl hi
   ·simp only [if_neg hg,if_neg hM''] at hi
    cases hi
 ·by_cases hg:i<g
  ·simp only [if_pos hg] at hi
   by_cases hm:i∈ids M
   ·simp only [if_pos hm] at hi;exact hi
   ·simp only [if_neg hm] at hi
    rw [hold i ⟨hg,hm⟩];exact hi
  ·simp only [if_neg hg] at hi
   split at hi
   ·exact hi
   ·cases hi
theorem zr8 {P:Program} {N:Nat} {l:List (Nat×AV)} {H:zaa} {g:Nat} {lim:Option Nat} {g0 i:Nat} {ops:Array Oper} {K:Fr->zaa->Nat->Prop} {r:List Oper} {d:Nat} {ty:TypeId} {pos:String} {after:Array Edge} {O:Nat->Prop} {H0:zaa} {L M:BL} {b:Nat}
  {f:Operand} {args:Array Operand} {ts:Array TypeId} {k:FuncId} {first cap bs:List AV} {T:Nat->AV->BL->Prop} (hl:lim=none\/zfe ops (Fr.of l) i=true) (hS:St O H0 (M++L) H b) (hd:d<N) (ht:tgt (evL N l f)=some (k,first,cap)) (ha:first++args.toList.map (evL N l)++cap=bs)
  (hs:zqF P k bs M T) (hb:b<=g)
  (h:∀v M' H' g',T g v M'->g<=g'->(∀i,i∈ids M'->i∈ids M\/g<=i)->St O H0 (M'++L) H' g'->zaL P N lim g0 ops K (i+1) r (Fr.of ((d,v)::l)) H' g') :
  zaL P N lim g0 ops K i (⟨some d,.call { callee:=.value f,args:=args,argTypes:=ts },ty,pos,after,none⟩::r) (Fr.of l) H g :=
 zpj hd ht ha (hs H g (fun j hj=>hS.fr j (Nat.le_trans hb hj)) (fun p hp=>(hS.has p (List.mem_append.2 (.inl hp))).2.2)) hl fun v H' g' ⟨M',hT,h1,h2,h3,h4,h5,h6⟩=>h v M' H' g' hT h4 h6 (hS.rsat hb h1 h2 h3 h4 h5 h6)
theorem zqF.le {P:Program} {f:FuncId} {as bs:List AV} {M:BL} {T:Nat->AV->BL->Prop} (h:zqF P f as M T) (hl:LeL as bs):zqF P f bs M T:=fun H g hf hh =>
 ⟨(h H g hf hh).1,(h H g hf hh).2.1,fun G w vs hp hv=>(h H g hf hh).2.2 G w vs hp (hv.le hl)⟩
theorem zkL {P:Program} {N:Nat} {l:List (Nat×AV)} {H:zaa} {g:Nat} {lim:Option Nat} {g0 i:Nat} {ops:Array Oper} {K:Fr->zaa->Nat->Prop} {r:List Oper} {d:Nat} {ty:TypeId} {pos:String} {after:Array Edge} {O:Nat->Prop} {H0:zaa} {L:BL} {b:Nat}
  {t e:TypeId} {x y:Operand} {k k':Nat} {tg:Tag} {es:List (List AV)} (hS:St O H0 L H b) (hd:d<N) (hx:evL N l x=.sl .nil k' []) (hy:evL N l y=.sl tg k es) (hk:zaF P t=some k) (he:zcy P t=some e) (hf:za6 P t=true) (hl:es.length<=1048576) (hb:b<=g0+i)
  (h:∀H',St O H0 ((g0+i,.row e es.length)::L) H' (g0+i+1)->zaL P N lim g0 ops K (i+1) r (Fr.of ((d,.sl (.id (g0+i)) k es)::l)) H' g) :
  zaL P N lim g0 ops K i (⟨some d,.call { callee:=.builtin .append,args:=#[x,y],argTypes:=#[t,t] },ty,pos,after,none⟩::r) (Fr.of l) H g:=by
 refine za3 (v:=.sl (.id (g0+i)) k es) (wr:=some (g0+i,.row e es.length)) hd rfl ?_ ?_ (h _ (hS.add _ hb))
 ·cases lim with
  | none=>rfl
  | some q=>simp [old,hx]
 ·have hfit:zog P t ((([]:List (List AV)).length)+es.length)=true:=by
   unfold zog
   simp only [List.length_nil,Nat.zero_add,Bool.or_eq_true,decide_eq_true_eq]
   exact .inl hl
  simp only [zat,List.map_cons,List.map_nil,hx,hy,if_true,zeQ]
  rw [if_pos ⟨hf,hfit,.inl hk⟩]
  simp [hk,he]
theorem zww (l:List Int):Le (.agg ((l.map kvI).map .v)) (.v (.agg (l.map kvI).toArray)):=.flat _ fun x hx=>by
 obtain ⟨y,_,rfl⟩:=List.mem_map.1 hx
 rfl
theorem zr9 {α:Type} {f:α->List AV} (h:∀x c,c∈f x->Pure c) (xs:List α):∀c,c∈(xs.map f).flatten->Pure c:=fun c hc=>by
 obtain ⟨l,hl,hc⟩:=List.mem_flatten.1 hc
 obtain ⟨x,_,rfl⟩:=List.mem_map.1 hl
 exact h x c hc
end Go.AM
