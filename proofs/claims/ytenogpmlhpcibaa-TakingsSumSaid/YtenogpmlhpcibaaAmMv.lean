/-
  The abstract machine: maps whose values are of any type.
  Conditions: none; it speaks of any program.
-/
import Derived.Test.YtenogpmlhpcibaaAmLw
set_option linter.all false
namespace Go.AM
open Go Go.RowKit
section
variable {κ ν:Type} [DecidableEq κ] {kv:κ->Value} {cv:ν->Value}
def mpw (kv:κ->Value) (cv:ν->Value) (M:List (κ×ν)):List (Value×Value):=M.map fun p=>(kv p.1,cv p.2)
theorem zjB (hkv:∀a b,kv a=kv b->a=b):∀(M:List (κ×ν)) (k:κ),zfE (mpw kv cv M) (kv k)=if zcz M k=true then some (zrM M k) else none
 | [],k=>rfl
 | p::M,k=>by
  rw [show mpw kv cv (p::M)=(kv p.1,cv p.2)::mpw kv cv M from rfl,zrf]
  by_cases h:p.1=k
  ·subst h
   simp [zcz,zrM]
  ·rw [if_neg (fun e=>h (hkv _ _ e)),zjB hkv M k]
   simp only [zcz,zrM,if_neg h]
   cases zcz M k<;>simp
theorem zp5 (z:ν):∀(M:List (κ×ν)) (k:κ),zcz M k=true->∃p,M[zrM M k]?=some p/\p.1=k/\p.2=zhC z M k
 | [],k,h=>by simp [zcz] at h
 | p::M,k,h=>by
  by_cases e:p.1=k
  ·exact ⟨p,by simp [zrM,e],e,by simp [zhC,e]⟩
  ·simp only [zcz,if_neg e] at h
   obtain ⟨q,h1,h2,h3⟩:=zp5 z M k h
   exact ⟨q,by simp [zrM,e,h1],h2,by simp [zhC,e,h3]⟩
theorem zht (z:ν):∀(M:List (κ×ν)) (k:κ),zcz M k=false->zhC z M k=z/\zrM M k=M.length/\∀v,zh1 M k v=M++[(k,v)]
 | [],k,_=>⟨rfl,rfl,fun _=>rfl⟩
 | p::M,k,h=>by
  by_cases e:p.1=k
  ·simp [zcz,e] at h
  ·simp only [zcz,if_neg e] at h
   obtain ⟨h1,h2,h3⟩:=zht z M k h
   exact ⟨by simp [zhC,e,h1],by simp [zrM,e,h2],fun v=>by simp [zh1,e,h3]⟩
theorem zp6:∀(M:List (κ×ν)) (k:κ) (v:ν),zcz M k=true->zh1 M k v=M.set (zrM M k) (k,v)
 | [],k,v,h=>by simp [zcz] at h
 | p::M,k,v,h=>by
  by_cases e:p.1=k
  ·simp [zh1,zrM,e]
  ·simp only [zcz,if_neg e] at h
   simp [zh1,zrM,e,zp6 M k v h]
theorem zp7 (hkv:∀a b,kv a=kv b->a=b) (z:ν) (M:List (κ×ν)) (k:κ):zrK (mpw kv cv M) (kv k) (cv z)=cv (zhC z M k):=by
 unfold zrK
 rw [zjB hkv]
 cases h:zcz M k with
 | true =>
  obtain ⟨p,h1,h2,h3⟩:=zp5 z M k h
  simp [mpw,h1,h3]
 | false=>simp [(zht z M k h).1]
theorem zp8 (hkv:∀a b,kv a=kv b->a=b) (M:List (κ×ν)) (k:κ) (v:ν):Go.AM.mput (mpw kv cv M) (kv k) (cv v)=mpw kv cv (zh1 M k v):=by
 unfold Go.AM.mput
 rw [zjB hkv]
 cases h:zcz M k with
 | true=>simp [zp6 M k v h,mpw,List.map_set]
 | false=>simp [(zht v M k h).2.2 v,mpw]
theorem KeysAre.okW {P:Program} {kt:TypeId} {ok:κ->Bool} (K:KeysAre P kt ok kv) {M:List (κ×ν)} {k:κ} (h:mok ok M k=true):zrP P kt (mpw kv cv M) (kv k):=by
 simp only [mok,Bool.and_eq_true,decide_eq_true_eq] at h
 obtain ⟨⟨h1,h2⟩,h3⟩:=h
 refine ⟨K.keyed,K.key _ h1,fun p hp=>?_,?_⟩
 ·obtain ⟨q,hq,rfl⟩:=List.mem_map.1 hp
  exact K.key _ (List.all_eq_true.1 h2 q hq)
 ·have:(mpw kv cv M).map (·.1)=(M.map (·.1)).map kv:=by simp [mpw]
  rw [this]
  exact List.Pairwise.map _ (fun a b hab e=>hab (K.inj _ _ e)) h3
end
section
variable {P:Program} {N:Nat} {l:List (Nat×AV)} {H:zac} {g:Nat} {lim:Option Nat} {g0 i:Nat} {ops:Array Oper} {K:Fr->zac->Nat->Prop} {r:List Oper} {d:Nat} {ty:TypeId} {pos:String} {after:Array Edge}
 {O:Nat->Prop} {H0:zac} {L Lp:List (Nat×Blk)} {b:Nat} {κ ν:Type} [DecidableEq κ] {kv:κ->Value} {cv:ν->Value} {ok:κ->Bool}
theorem zkT {t:TypeId} {q:TypeId×TypeId} {j:Nat} {z:ν} {M:List (κ×ν)} {k:κ} {x ix:AV} (KK:KeysAre P q.1 ok kv) (hH:H j=some (.obj none (zaH (mpw kv cv M)))) (hx:x=.mp j) (hy:zuL ix=some (kv k)) (hq:ziR P t=some q) (hz:zgO P q.2=some (cv z)) (hk:mok ok M k=true) :
  zk1 P t H x ix=some (j,mpw kv cv M,kv k,cv z):=by
 subst hx
 simp only [zk1,hH,hq,zpN,hy,hz,Option.bind_some]
 rw [if_pos (KK.okW hk)]
theorem zlu {t:TypeId} {q:TypeId×TypeId} {x y:Operand} {j:Nat} {z u:ν} {M:List (κ×ν)} {k:κ} {v':AV} (n:Nat) (KK:KeysAre P q.1 ok kv) (hS:St O H0 L H b) (hd:d<N) (hx:evL N l x=.mp j) (hy:zuL (evL N l y)=some (kv k)) (hn:L[n]?=some (j,.obj none (zaH (mpw kv cv M))))
  (hq:ziR P t=some q) (hz:zgO P q.2=some (cv z)) (hu:zhp ok z M k=some u) (hle:Le v' (.v (cv u)))
  (h:zaU P N none g0 ops K (i+1) r (Fr.of ((d,v')::l)) H g):zaU P N none g0 ops K i (⟨some d,.lookup t x y false,ty,pos,after,none⟩::r) (Fr.of l) H g:=by
 unfold zhp at hu
 split at hu
 case isFalse=>cases hu
 case isTrue hk =>
 injection hu with hu
 have hm:=zkT (z:=z) KK (hS.get hn) hx hy hq hz hk
 refine zkS (v:=.v (cv u)) (wr:=none) hd rfl rfl ?_ hle h
 simp only [zaJ,hm,Option.map_some,Bool.false_eq_true,if_false,zp7 KK.inj,hu]
theorem zlv {t:TypeId} {q:TypeId×TypeId} {x y:Operand} {j:Nat} {z u:ν} {M:List (κ×ν)} {k:κ} {v':AV} (n:Nat) (KK:KeysAre P q.1 ok kv) (hS:St O H0 L H b) (hd:d<N) (hx:evL N l x=.mp j) (hy:zuL (evL N l y)=some (kv k)) (hn:L[n]?=some (j,.obj none (zaH (mpw kv cv M))))
  (hq:ziR P t=some q) (hz:zgO P q.2=some (cv z)) (hu:zhp ok z M k=some u) (hle:Le v' (.v (cv u)))
  (h:zaU P N none g0 ops K (i+1) r (Fr.of ((d,.tup [v',.v (.bool (zcz M k))])::l)) H g):zaU P N none g0 ops K i (⟨some d,.lookup t x y true,ty,pos,after,none⟩::r) (Fr.of l) H g:=by
 unfold zhp at hu
 split at hu
 case isFalse=>cases hu
 case isTrue hk =>
 injection hu with hu
 have hm:=zkT (z:=z) KK (hS.get hn) hx hy hq hz hk
 refine zkS (v:=.tup [.v (cv u),.v (.bool (zcz M k))]) (wr:=none) hd rfl rfl ?_ (.tupL (.cons hle (.cons (.refl _) .nil))) h
 have h2:(zfE (mpw kv cv M) (kv k)).isSome=zcz M k:=by
  rw [zjB KK.inj]
  cases zcz M k<;>simp
 simp only [zaJ,hm,Option.map_some,if_true,zp7 KK.inj,hu,h2]
theorem zkA {t:TypeId} {q:TypeId×TypeId} {x y z:Operand} {j:Nat} {M M':List (κ×ν)} {k:κ} {v z0:ν} {L':List (Nat×Blk)} (n:Nat) (KK:KeysAre P q.1 ok kv) (hp:lim=none\/zgu ops (Fr.of l) i=true) (hS:St O H0 L H b) (hx:evL N l x=.mp j) (hy:zuL (evL N l y)=some (kv k)) (hv:ztG (evL N l z)=some (cv v)) (hn:L[n]?=some (j,.obj none (zaH (mpw kv cv M))))
  (hq:ziR P t=some q) (hz:zgO P q.2=some (cv z0)) (hM:zlm ok M k v=some M') (hL:putAt L n (.obj none (zaH (mpw kv cv M')))=L')
  (h:∀H',St O H0 L' H' b->zaU P N lim g0 ops K (i+1) r (Fr.of l) H' g):zaU P N lim g0 ops K i (⟨none,.mapUpdate t x y z,ty,pos,after,none⟩::r) (Fr.of l) H g:=by
 unfold zlm at hM
 split at hM
 case isFalse=>cases hM
 case isTrue hk =>
 injection hM with hM
 subst hM
 have hm:=zkT (z:=z0) KK (hS.get hn) hx hy hq hz hk
 have he:zaJ P (g0+i) (.mapUpdate t x y z) (evL N l) H=some (.any,some (j,.obj none (zaH (mpw kv cv (zh1 M k v))))):=by
  simp only [zaJ,hm,hv,Option.bind_some,Option.map_some,zp8 KK.inj]
 have hst:=hS.put hn (.obj none (zaH (mpw kv cv (zh1 M k v))))
 rw [hL] at hst
 rcases hp with rfl | hp
 ·exact zkb (v:=.any) (wr:=some (j,_)) rfl rfl he (h _ hst)
 ·by_cases ho:old lim ops i (.mapUpdate t x y z) (evL N l)=true
  ·exact zkb (v:=.any) (wr:=some (j,_)) rfl ho he (h _ hst)
  ·simp only [zaU,zbH,opQ,zbT,zeH,ho,if_false]
   exact ⟨hp,_,_,he,h _ hst⟩
theorem zsE {t:TypeId} {q:TypeId×TypeId} {x y z:Operand} {j:Nat} {M M':List (κ×ν)} {k:κ} {v z0:ν} {L':List (Nat×Blk)} (n:Nat) (KK:KeysAre P q.1 ok kv) (hp:lim=none\/zgu ops (Fr.of l) i=true) (hS:St O H0 L H b) (hx:evL N l x=.mp j) (hy:zuL (evL N l y)=some (kv k)) (hv:ztG (evL N l z)=some (cv v)) (hn:L[n]?=some (j,.obj none (zaH (mpw kv cv M))))
  (hq:ziR P t=some q) (hz:zgO P q.2=some (cv z0)) (hM:zlm ok M k v=some M') (hL:putAt L n (.obj none (zaH (mpw kv cv M')))=L')
  (h:∀H',St O H0 L' H' b->zaU P N lim g0 ops K (i+1) r (Fr.of l) H' g):zaU P N lim g0 ops K i (⟨none,.insert t x y z,ty,pos,after,none⟩::r) (Fr.of l) H g:=by
 unfold zlm at hM
 split at hM
 case isFalse=>cases hM
 case isTrue hk =>
 injection hM with hM
 subst hM
 have hm:=zkT (z:=z0) KK (hS.get hn) hx hy hq hz hk
 have he:zaJ P (g0+i) (.insert t x y z) (evL N l) H=some (.any,some (j,.obj none (zaH (mpw kv cv (zh1 M k v))))):=by
  simp only [zaJ,hm,hv,Option.bind_some,Option.map_some,zp8 KK.inj]
 have hst:=hS.put hn (.obj none (zaH (mpw kv cv (zh1 M k v))))
 rw [hL] at hst
 rcases hp with rfl | hp
 ·exact zkb (v:=.any) (wr:=some (j,_)) rfl rfl he (h _ hst)
 ·by_cases ho:old lim ops i (.insert t x y z) (evL N l)=true
  ·exact zkb (v:=.any) (wr:=some (j,_)) rfl ho he (h _ hst)
  ·simp only [zaU,zbH,opQ,zbT,zeH,ho,if_false]
   exact ⟨hp,_,_,he,h _ hst⟩
theorem zmK {t:TypeId} {q:TypeId×TypeId} (hS:St O H0 L H b) (hd:d<N) (hq:ziR P t=some q) (hb:b<=g0+i)
  (h:∀H',St O H0 ((g0+i,.obj none (zaH (mpw kv cv ([]:List (κ×ν)))))::L) H' (g0+i+1)->zaU P N lim g0 ops K (i+1) r (Fr.of ((d,.mp (g0+i))::l)) H' g):zaU P N lim g0 ops K i (⟨some d,.makeMap t none,ty,pos,after,none⟩::r) (Fr.of l) H g :=
 zbr (v:=.mp (g0+i)) (wr:=some (g0+i,.obj none (zaH []))) hd rfl (by cases lim<;>rfl) (by simp [zaJ,hq]) (h _ (hS.add _ hb))
end
end Go.AM
