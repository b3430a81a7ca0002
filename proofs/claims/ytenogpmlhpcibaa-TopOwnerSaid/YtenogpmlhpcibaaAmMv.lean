/-
  The abstract machine: maps whose values are of any type.
  Conditions: none; it speaks of any program.
-/
import Derived.Test.YtenogpmlhpcibaaAmLw
set_option linter.all false
namespace Go.AM
open Go Go.RowKit
section
variable {κ ν:Type} [DecidableEq κ] {kv:κ→Value} {cv:ν→Value}
def mpw (kv:κ→Value) (cv:ν→Value) (M:List (κ×ν)):List (Value×Value):=M.map fun p=>(kv p.1,cv p.2)
theorem mfind_mpw (hkv:∀a b,kv a=kv b→a=b):∀(M:List (κ×ν)) (k:κ),mfind (mpw kv cv M) (kv k)=if mhas M k=true then some (midx M k) else none
 | [],k=>rfl
 | p::M,k=>by
  rw [show mpw kv cv (p::M)=(kv p.1,cv p.2)::mpw kv cv M from rfl,mfind_cons]
  by_cases h:p.1=k
  ·subst h
   simp [mhas,midx]
  ·rw [if_neg (fun e=>h (hkv _ _ e)),mfind_mpw hkv M k]
   simp only [mhas,midx,if_neg h]
   cases mhas M k<;>simp
theorem vhas_idx (z:ν):∀(M:List (κ×ν)) (k:κ),mhas M k=true→∃p,M[midx M k]?=some p∧p.1=k∧p.2=vget z M k
 | [],k,h=>by simp [mhas] at h
 | p::M,k,h=>by
  by_cases e:p.1=k
  ·exact ⟨p,by simp [midx,e],e,by simp [vget,e]⟩
  ·simp only [mhas,if_neg e] at h
   obtain ⟨q,h1,h2,h3⟩:=vhas_idx z M k h
   exact ⟨q,by simp [midx,e,h1],h2,by simp [vget,e,h3]⟩
theorem vget_none (z:ν):∀(M:List (κ×ν)) (k:κ),mhas M k=false→vget z M k=z∧midx M k=M.length∧∀v,mset M k v=M++[(k,v)]
 | [],k,_=>⟨rfl,rfl,fun _=>rfl⟩
 | p::M,k,h=>by
  by_cases e:p.1=k
  ·simp [mhas,e] at h
  ·simp only [mhas,if_neg e] at h
   obtain ⟨h1,h2,h3⟩:=vget_none z M k h
   exact ⟨by simp [vget,e,h1],by simp [midx,e,h2],fun v=>by simp [mset,e,h3]⟩
theorem vset_has:∀(M:List (κ×ν)) (k:κ) (v:ν),mhas M k=true→mset M k v=M.set (midx M k) (k,v)
 | [],k,v,h=>by simp [mhas] at h
 | p::M,k,v,h=>by
  by_cases e:p.1=k
  ·simp [mset,midx,e]
  ·simp only [mhas,if_neg e] at h
   simp [mset,midx,e,vset_has M k v h]
theorem mval_mpw (hkv:∀a b,kv a=kv b→a=b) (z:ν) (M:List (κ×ν)) (k:κ):mval (mpw kv cv M) (kv k) (cv z)=cv (vget z M k):=by
 unfold mval
 rw [mfind_mpw hkv]
 cases h:mhas M k with
 | true =>
  obtain ⟨p,h1,h2,h3⟩:=vhas_idx z M k h
  simp [mpw,h1,h3]
 | false=>simp [(vget_none z M k h).1]
theorem mput_mpw (hkv:∀a b,kv a=kv b→a=b) (M:List (κ×ν)) (k:κ) (v:ν):Go.AM.mput (mpw kv cv M) (kv k) (cv v)=mpw kv cv (mset M k v):=by
 unfold Go.AM.mput
 rw [mfind_mpw hkv]
 cases h:mhas M k with
 | true=>simp [vset_has M k v h,mpw,List.map_set]
 | false=>simp [(vget_none v M k h).2.2 v,mpw]
theorem KeysAre.okW {P:Program} {kt:TypeId} {ok:κ→Bool} (K:KeysAre P kt ok kv) {M:List (κ×ν)} {k:κ} (h:mok ok M k=true):KeyOk P kt (mpw kv cv M) (kv k):=by
 simp only [mok,Bool.and_eq_true,decide_eq_true_eq] at h
 obtain ⟨⟨h1,h2⟩,h3⟩:=h
 refine ⟨K.keyed,K.key _ h1,fun p hp=>?_,?_⟩
 ·obtain ⟨q,hq,rfl⟩:=List.mem_map.1 hp
  exact K.key _ (List.all_eq_true.1 h2 q hq)
 ·have:(mpw kv cv M).map (·.1)=(M.map (·.1)).map kv:=by simp [mpw]
  rw [this]
  exact List.Pairwise.map _ (fun a b hab e=>hab (K.inj _ _ e)) h3
end
section
variable {P:Program} {N:Nat} {l:List (Nat×AV)} {H:Heap} {g:Nat} {lim:Option Nat} {g0 i:Nat} {ops:Array Oper} {K:Fr→Heap→Nat→Prop} {r:List Oper} {d:Nat} {ty:TypeId} {pos:String} {after:Array Edge}
 {O:Nat→Prop} {H0:Heap} {L Lp:List (Nat×Blk)} {b:Nat} {κ ν:Type} [DecidableEq κ] {kv:κ→Value} {cv:ν→Value} {ok:κ→Bool}
theorem mapA_ofW {t:TypeId} {q:TypeId×TypeId} {j:Nat} {z:ν} {M:List (κ×ν)} {k:κ} {x ix:AV} (KK:KeysAre P q.1 ok kv) (hH:H j=some (.obj none (mapIs (mpw kv cv M)))) (hx:x=.mp j) (hy:keyV ix=some (kv k)) (hq:mapTy P t=some q) (hz:zeroVal P q.2=some (cv z)) (hk:mok ok M k=true) :
  mapA P t H x ix=some (j,mpw kv cv M,kv k,cv z):=by
 subst hx
 simp only [mapA,hH,hq,mapOf_is,hy,hz,Option.bind_some]
 rw [if_pos (KK.okW hk)]
theorem o_lookupW {t:TypeId} {q:TypeId×TypeId} {x y:Operand} {j:Nat} {z u:ν} {M:List (κ×ν)} {k:κ} {v':AV} (n:Nat) (KK:KeysAre P q.1 ok kv) (hS:St O H0 L H b) (hd:d<N) (hx:evL N l x=.mp j) (hy:keyV (evL N l y)=some (kv k)) (hn:L[n]?=some (j,.obj none (mapIs (mpw kv cv M))))
  (hq:mapTy P t=some q) (hz:zeroVal P q.2=some (cv z)) (hu:vlook ok z M k=some u) (hle:Le v' (.v (cv u)))
  (h:runQ P N none g0 ops K (i+1) r (Fr.of ((d,v')::l)) H g):runQ P N none g0 ops K i (⟨some d,.lookup t x y false,ty,pos,after,none⟩::r) (Fr.of l) H g:=by
 unfold vlook at hu
 split at hu
 case isFalse=>cases hu
 case isTrue hk =>
 injection hu with hu
 have hm:=mapA_ofW (z:=z) KK (hS.get hn) hx hy hq hz hk
 refine run_weak (v:=.v (cv u)) (wr:=none) hd rfl rfl ?_ hle h
 simp only [evalF,hm,Option.map_some,Bool.false_eq_true,if_false,mval_mpw KK.inj,hu]
theorem o_lookupOkW {t:TypeId} {q:TypeId×TypeId} {x y:Operand} {j:Nat} {z u:ν} {M:List (κ×ν)} {k:κ} {v':AV} (n:Nat) (KK:KeysAre P q.1 ok kv) (hS:St O H0 L H b) (hd:d<N) (hx:evL N l x=.mp j) (hy:keyV (evL N l y)=some (kv k)) (hn:L[n]?=some (j,.obj none (mapIs (mpw kv cv M))))
  (hq:mapTy P t=some q) (hz:zeroVal P q.2=some (cv z)) (hu:vlook ok z M k=some u) (hle:Le v' (.v (cv u)))
  (h:runQ P N none g0 ops K (i+1) r (Fr.of ((d,.tup [v',.v (.bool (mhas M k))])::l)) H g):runQ P N none g0 ops K i (⟨some d,.lookup t x y true,ty,pos,after,none⟩::r) (Fr.of l) H g:=by
 unfold vlook at hu
 split at hu
 case isFalse=>cases hu
 case isTrue hk =>
 injection hu with hu
 have hm:=mapA_ofW (z:=z) KK (hS.get hn) hx hy hq hz hk
 refine run_weak (v:=.tup [.v (cv u),.v (.bool (mhas M k))]) (wr:=none) hd rfl rfl ?_ (.tupL (.cons hle (.cons (.refl _) .nil))) h
 have h2:(mfind (mpw kv cv M) (kv k)).isSome=mhas M k:=by
  rw [mfind_mpw KK.inj]
  cases mhas M k<;>simp
 simp only [evalF,hm,Option.map_some,if_true,mval_mpw KK.inj,hu,h2]
theorem o_mapUpdateW {t:TypeId} {q:TypeId×TypeId} {x y z:Operand} {j:Nat} {M M':List (κ×ν)} {k:κ} {v z0:ν} {L':List (Nat×Blk)} (n:Nat) (KK:KeysAre P q.1 ok kv) (hp:lim=none∨pivot ops (Fr.of l) i=true) (hS:St O H0 L H b) (hx:evL N l x=.mp j) (hy:keyV (evL N l y)=some (kv k)) (hv:valV (evL N l z)=some (cv v)) (hn:L[n]?=some (j,.obj none (mapIs (mpw kv cv M))))
  (hq:mapTy P t=some q) (hz:zeroVal P q.2=some (cv z0)) (hM:mstore ok M k v=some M') (hL:putAt L n (.obj none (mapIs (mpw kv cv M')))=L')
  (h:∀H',St O H0 L' H' b→runQ P N lim g0 ops K (i+1) r (Fr.of l) H' g):runQ P N lim g0 ops K i (⟨none,.mapUpdate t x y z,ty,pos,after,none⟩::r) (Fr.of l) H g:=by
 unfold mstore at hM
 split at hM
 case isFalse=>cases hM
 case isTrue hk =>
 injection hM with hM
 subst hM
 have hm:=mapA_ofW (z:=z0) KK (hS.get hn) hx hy hq hz hk
 have he:evalF P (g0+i) (.mapUpdate t x y z) (evL N l) H=some (.any,some (j,.obj none (mapIs (mpw kv cv (mset M k v))))):=by
  simp only [evalF,hm,hv,Option.bind_some,Option.map_some,mput_mpw KK.inj]
 have hst:=hS.put hn (.obj none (mapIs (mpw kv cv (mset M k v))))
 rw [hL] at hst
 rcases hp with rfl | hp
 ·exact run_eff (v:=.any) (wr:=some (j,_)) rfl rfl he (h _ hst)
 ·by_cases ho:old lim ops i (.mapUpdate t x y z) (evL N l)=true
  ·exact run_eff (v:=.any) (wr:=some (j,_)) rfl ho he (h _ hst)
  ·simp only [runQ,stepQ,opQ,callOf,ev_of,ho,if_false]
   exact ⟨hp,_,_,he,h _ hst⟩
theorem o_insertW {t:TypeId} {q:TypeId×TypeId} {x y z:Operand} {j:Nat} {M M':List (κ×ν)} {k:κ} {v z0:ν} {L':List (Nat×Blk)} (n:Nat) (KK:KeysAre P q.1 ok kv) (hp:lim=none∨pivot ops (Fr.of l) i=true) (hS:St O H0 L H b) (hx:evL N l x=.mp j) (hy:keyV (evL N l y)=some (kv k)) (hv:valV (evL N l z)=some (cv v)) (hn:L[n]?=some (j,.obj none (mapIs (mpw kv cv M))))
  (hq:mapTy P t=some q) (hz:zeroVal P q.2=some (cv z0)) (hM:mstore ok M k v=some M') (hL:putAt L n (.obj none (mapIs (mpw kv cv M')))=L')
  (h:∀H',St O H0 L' H' b→runQ P N lim g0 ops K (i+1) r (Fr.of l) H' g):runQ P N lim g0 ops K i (⟨none,.insert t x y z,ty,pos,after,none⟩::r) (Fr.of l) H g:=by
 unfold mstore at hM
 split at hM
 case isFalse=>cases hM
 case isTrue hk =>
 injection hM with hM
 subst hM
 have hm:=mapA_ofW (z:=z0) KK (hS.get hn) hx hy hq hz hk
 have he:evalF P (g0+i) (.insert t x y z) (evL N l) H=some (.any,some (j,.obj none (mapIs (mpw kv cv (mset M k v))))):=by
  simp only [evalF,hm,hv,Option.bind_some,Option.map_some,mput_mpw KK.inj]
 have hst:=hS.put hn (.obj none (mapIs (mpw kv cv (mset M k v))))
 rw [hL] at hst
 rcases hp with rfl | hp
 ·exact run_eff (v:=.any) (wr:=some (j,_)) rfl rfl he (h _ hst)
 ·by_cases ho:old lim ops i (.insert t x y z) (evL N l)=true
  ·exact run_eff (v:=.any) (wr:=some (j,_)) rfl ho he (h _ hst)
  ·simp only [runQ,stepQ,opQ,callOf,ev_of,ho,if_false]
   exact ⟨hp,_,_,he,h _ hst⟩
theorem o_makeMapW {t:TypeId} {q:TypeId×TypeId} (hS:St O H0 L H b) (hd:d<N) (hq:mapTy P t=some q) (hb:b≤g0+i)
  (h:∀H',St O H0 ((g0+i,.obj none (mapIs (mpw kv cv ([]:List (κ×ν)))))::L) H' (g0+i+1)→runQ P N lim g0 ops K (i+1) r (Fr.of ((d,.mp (g0+i))::l)) H' g):runQ P N lim g0 ops K i (⟨some d,.makeMap t none,ty,pos,after,none⟩::r) (Fr.of l) H g :=
 run_val (v:=.mp (g0+i)) (wr:=some (g0+i,.obj none (mapIs []))) hd rfl (by cases lim<;>rfl) (by simp [evalF,hq]) (h _ (hS.add _ hb))
end
end Go.AM
