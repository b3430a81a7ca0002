/-
  The abstract machine: maps whose values are of any type.
  Conditions: none; it speaks of any program.
-/
import Derived.Test.YtenogpmlhpcibaaAmLw
set_option linter.all false
namespace Go.AM
open Go Go.RowKit
section
variable {κ ν:Type} [DecidableEq κ] {kv:κ->Value} {cv:ν->Value}
def mpw (kv:κ->Value) (cv:ν->Value) (M:List (κ×ν)):List (Value×Value):=M.map fun p=>(kv p.1,cv p.2)
theorem ziR (hkv:∀a b,kv a=kv b->a=b):∀(M:List (κ×ν)) (k:κ),zeB (mpw kv cv M) (kv k)=if zbv M k=true then some (zkG M k) else none
 | [],k=>rfl
 | p::M,k=>by
  rw [show mpw kv cv (p::M)=(kv p.1,cv p.2)::mpw kv cv M from rfl,zlX]
  by_cases h:p.1=k
  ·subst h
   simp [zbv,zkG]
  ·rw [if_neg (fun e=>h (hkv _ _ e)),ziR hkv M k]
   simp only [zbv,zkG,if_neg h]
   cases zbv M k<;>simp
theorem zpn (z:ν):∀(M:List (κ×ν)) (k:κ),zbv M k=true->∃p,M[zkG M k]?=some p/\p.1=k/\p.2=zg0 z M k
 | [],k,h=>by simp [zbv] at h
 | p::M,k,h=>by
  by_cases e:p.1=k
  ·exact ⟨p,by simp [zkG,e],e,by simp [zg0,e]⟩
  ·simp only [zbv,if_neg e] at h
   obtain ⟨q,h1,h2,h3⟩:=zpn z M k h
   exact ⟨q,by simp [zkG,e,h1],h2,by simp [zg0,e,h3]⟩
theorem zgK (z:ν):∀(M:List (κ×ν)) (k:κ),zbv M k=false->zg0 z M k=z/\zkG M k=M.length/\∀v,zgh M k v=M++[(k,v)]
 | [],k,_=>⟨rfl,rfl,fun _=>rfl⟩
 | p::M,k,h=>by
  by_cases e:p.1=k
  ·simp [zbv,e] at h
  ·simp only [zbv,if_neg e] at h
   obtain ⟨h1,h2,h3⟩:=zgK z M k h
   exact ⟨by simp [zg0,e,h1],by simp [zkG,e,h2],fun v=>by simp [zgh,e,h3]⟩
theorem zpo:∀(M:List (κ×ν)) (k:κ) (v:ν),zbv M k=true->zgh M k v=M.set (zkG M k) (k,v)
 | [],k,v,h=>by simp [zbv] at h
 | p::M,k,v,h=>by
  by_cases e:p.1=k
  ·simp [zgh,zkG,e]
  ·simp only [zbv,if_neg e] at h
   simp [zgh,zkG,e,zpo M k v h]
theorem zpp (hkv:∀a b,kv a=kv b->a=b) (z:ν) (M:List (κ×ν)) (k:κ):zo0 (mpw kv cv M) (kv k) (cv z)=cv (zg0 z M k):=by
 unfold zo0
 rw [ziR hkv]
 cases h:zbv M k with
 | true =>
  obtain ⟨p,h1,h2,h3⟩:=zpn z M k h
  simp [mpw,h1,h3]
 | false=>simp [(zgK z M k h).1]
theorem zpq (hkv:∀a b,kv a=kv b->a=b) (M:List (κ×ν)) (k:κ) (v:ν):Go.AM.mput (mpw kv cv M) (kv k) (cv v)=mpw kv cv (zgh M k v):=by
 unfold Go.AM.mput
 rw [ziR hkv]
 cases h:zbv M k with
 | true=>simp [zpo M k v h,mpw,List.map_set]
 | false=>simp [(zgK v M k h).2.2 v,mpw]
theorem KeysAre.okW {P:Program} {kt:TypeId} {ok:κ->Bool} (K:KeysAre P kt ok kv) {M:List (κ×ν)} {k:κ} (h:mok ok M k=true):zra P kt (mpw kv cv M) (kv k):=by
 simp only [mok,Bool.and_eq_true,decide_eq_true_eq] at h
 obtain ⟨⟨h1,h2⟩,h3⟩:=h
 refine ⟨K.keyed,K.key _ h1,fun p hp=>?_,?_⟩
 ·obtain ⟨q,hq,rfl⟩:=List.mem_map.1 hp
  exact K.key _ (List.all_eq_true.1 h2 q hq)
 ·have:(mpw kv cv M).map (·.1)=(M.map (·.1)).map kv:=by simp [mpw]
  rw [this]
  exact List.Pairwise.map _ (fun a b hab e=>hab (K.inj _ _ e)) h3
end
section
variable {P:Program} {N:Nat} {l:List (Nat×AV)} {H:zac} {g:Nat} {lim:Option Nat} {g0 i:Nat} {ops:Array Oper} {K:Fr->zac->Nat->Prop} {r:List Oper} {d:Nat} {ty:TypeId} {pos:String} {after:Array Edge}
 {O:Nat->Prop} {H0:zac} {L Lp:List (Nat×Blk)} {b:Nat} {κ ν:Type} [DecidableEq κ] {kv:κ->Value} {cv:ν->Value} {ok:κ->Bool}
theorem zkd {t:TypeId} {q:TypeId×TypeId} {j:Nat} {z:ν} {M:List (κ×ν)} {k:κ} {x ix:AV} (KK:KeysAre P q.1 ok kv) (hH:H j=some (.obj none (zaf (mpw kv cv M)))) (hx:x=.mp j) (hy:zq9 ix=some (kv k)) (hq:zgG P t=some q) (hz:zfB P q.2=some (cv z)) (hk:mok ok M k=true) :
  zjY P t H x ix=some (j,mpw kv cv M,kv k,cv z):=by
 subst hx
 simp only [zjY,hH,hq,zmh,hy,hz,Option.bind_some]
 rw [if_pos (KK.okW hk)]
theorem zkT {t:TypeId} {q:TypeId×TypeId} {x y:Operand} {j:Nat} {z u:ν} {M:List (κ×ν)} {k:κ} {v':AV} (n:Nat) (KK:KeysAre P q.1 ok kv) (hS:St O H0 L H b) (hd:d<N) (hx:evL N l x=.mp j) (hy:zq9 (evL N l y)=some (kv k)) (hn:L[n]?=some (j,.obj none (zaf (mpw kv cv M))))
  (hq:zgG P t=some q) (hz:zfB P q.2=some (cv z)) (hu:zgI ok z M k=some u) (hle:Le v' (.v (cv u)))
  (h:zaT P N none g0 ops K (i+1) r (Fr.of ((d,v')::l)) H g):zaT P N none g0 ops K i (⟨some d,.lookup t x y false,ty,pos,after,none⟩::r) (Fr.of l) H g:=by
 unfold zgI at hu
 split at hu
 case isFalse=>cases hu
 case isTrue hk =>
 injection hu with hu
 have hm:=zkd (z:=z) KK (hS.get hn) hx hy hq hz hk
 refine zmp (v:=.v (cv u)) (wr:=none) hd rfl rfl ?_ hle h
 simp only [zaC,hm,Option.map_some,Bool.false_eq_true,if_false,zpp KK.inj,hu]
theorem zkU {t:TypeId} {q:TypeId×TypeId} {x y:Operand} {j:Nat} {z u:ν} {M:List (κ×ν)} {k:κ} {v':AV} (n:Nat) (KK:KeysAre P q.1 ok kv) (hS:St O H0 L H b) (hd:d<N) (hx:evL N l x=.mp j) (hy:zq9 (evL N l y)=some (kv k)) (hn:L[n]?=some (j,.obj none (zaf (mpw kv cv M))))
  (hq:zgG P t=some q) (hz:zfB P q.2=some (cv z)) (hu:zgI ok z M k=some u) (hle:Le v' (.v (cv u)))
  (h:zaT P N none g0 ops K (i+1) r (Fr.of ((d,.tup [v',.v (.bool (zbv M k))])::l)) H g):zaT P N none g0 ops K i (⟨some d,.lookup t x y true,ty,pos,after,none⟩::r) (Fr.of l) H g:=by
 unfold zgI at hu
 split at hu
 case isFalse=>cases hu
 case isTrue hk =>
 injection hu with hu
 have hm:=zkd (z:=z) KK (hS.get hn) hx hy hq hz hk
 refine zmp (v:=.tup [.v (cv u),.v (.bool (zbv M k))]) (wr:=none) hd rfl rfl ?_ (.tupL (.cons hle (.cons (.refl _) .nil))) h
 have h2:(zeB (mpw kv cv M) (kv k)).isSome=zbv M k:=by
  rw [ziR KK.inj]
  cases zbv M k<;>simp
 simp only [zaC,hm,Option.map_some,if_true,zpp KK.inj,hu,h2]
theorem zjP {t:TypeId} {q:TypeId×TypeId} {x y z:Operand} {j:Nat} {M M':List (κ×ν)} {k:κ} {v z0:ν} {L':List (Nat×Blk)} (n:Nat) (KK:KeysAre P q.1 ok kv) (hp:lim=none\/zfk ops (Fr.of l) i=true) (hS:St O H0 L H b) (hx:evL N l x=.mp j) (hy:zq9 (evL N l y)=some (kv k)) (hv:zs4 (evL N l z)=some (cv v)) (hn:L[n]?=some (j,.obj none (zaf (mpw kv cv M))))
  (hq:zgG P t=some q) (hz:zfB P q.2=some (cv z0)) (hM:zhA ok M k v=some M') (hL:putAt L n (.obj none (zaf (mpw kv cv M')))=L')
  (h:∀H',St O H0 L' H' b->zaT P N lim g0 ops K (i+1) r (Fr.of l) H' g):zaT P N lim g0 ops K i (⟨none,.mapUpdate t x y z,ty,pos,after,none⟩::r) (Fr.of l) H g:=by
 unfold zhA at hM
 split at hM
 case isFalse=>cases hM
 case isTrue hk =>
 injection hM with hM
 subst hM
 have hm:=zkd (z:=z0) KK (hS.get hn) hx hy hq hz hk
 have he:zaC P (g0+i) (.mapUpdate t x y z) (evL N l) H=some (.any,some (j,.obj none (zaf (mpw kv cv (zgh M k v))))):=by
  simp only [zaC,hm,hv,Option.bind_some,Option.map_some,zpq KK.inj]
 have hst:=hS.put hn (.obj none (zaf (mpw kv cv (zgh M k v))))
 rw [hL] at hst
 rcases hp with rfl | hp
 ·exact zhz (v:=.any) (wr:=some (j,_)) rfl rfl he (h _ hst)
 ·by_cases ho:old lim ops i (.mapUpdate t x y z) (evL N l)=true
  ·exact zhz (v:=.any) (wr:=some (j,_)) rfl ho he (h _ hst)
  ·simp only [zaT,zbM,opQ,zb0,zeC,ho,if_false]
   exact ⟨hp,_,_,he,h _ hst⟩
theorem zr0 {t:TypeId} {q:TypeId×TypeId} {x y z:Operand} {j:Nat} {M M':List (κ×ν)} {k:κ} {v z0:ν} {L':List (Nat×Blk)} (n:Nat) (KK:KeysAre P q.1 ok kv) (hp:lim=none\/zfk ops (Fr.of l) i=true) (hS:St O H0 L H b) (hx:evL N l x=.mp j) (hy:zq9 (evL N l y)=some (kv k)) (hv:zs4 (evL N l z)=some (cv v)) (hn:L[n]?=some (j,.obj none (zaf (mpw kv cv M))))
  (hq:zgG P t=some q) (hz:zfB P q.2=some (cv z0)) (hM:zhA ok M k v=some M') (hL:putAt L n (.obj none (zaf (mpw kv cv M')))=L')
  (h:∀H',St O H0 L' H' b->zaT P N lim g0 ops K (i+1) r (Fr.of l) H' g):zaT P N lim g0 ops K i (⟨none,.insert t x y z,ty,pos,after,none⟩::r) (Fr.of l) H g:=by
 unfold zhA at hM
 split at hM
 case isFalse=>cases hM
 case isTrue hk =>
 injection hM with hM
 subst hM
 have hm:=zkd (z:=z0) KK (hS.get hn) hx hy hq hz hk
 have he:zaC P (g0+i) (.insert t x y z) (evL N l) H=some (.any,some (j,.obj none (zaf (mpw kv cv (zgh M k v))))):=by
  simp only [zaC,hm,hv,Option.bind_some,Option.map_some,zpq KK.inj]
 have hst:=hS.put hn (.obj none (zaf (mpw kv cv (zgh M k v))))
 rw [hL] at hst
 rcases hp with rfl | hp
 ·exact zhz (v:=.any) (wr:=some (j,_)) rfl rfl he (h _ hst)
 ·by_cases ho:old lim ops i (.insert t x y z) (evL N l)=true
  ·exact zhz (v:=.any) (wr:=some (j,_)) rfl ho he (h _ hst)
  ·simp only [zaT,zbM,opQ,zb0,zeC,ho,if_false]
   exact ⟨hp,_,_,he,h _ hst⟩
theorem zlZ {t:TypeId} {q:TypeId×TypeId} (hS:St O H0 L H b) (hd:d<N) (hq:zgG P t=some q) (hb:b<=g0+i)
  (h:∀H',St O H0 ((g0+i,.obj none (zaf (mpw kv cv ([]:List (κ×ν)))))::L) H' (g0+i+1)->zaT P N lim g0 ops K (i+1) r (Fr.of ((d,.mp (g0+i))::l)) H' g):zaT P N lim g0 ops K i (⟨some d,.makeMap t none,ty,pos,after,none⟩::r) (Fr.of l) H g :=
 za6 (v:=.mp (g0+i)) (wr:=some (g0+i,.obj none (zaf []))) hd rfl (by cases lim<;>rfl) (by simp [zaC,hq]) (h _ (hS.add _ hb))
end
end Go.AM
