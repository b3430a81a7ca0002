/-
  The abstract machine: maps whose values are of any type.
  Conditions: none; it speaks of any program.
-/
import Derived.Test.YtenogpmlhpcibaaAmLw
set_option linter.all false
namespace Go.AM
open Go Go.RowKit
section
variable {κ ν:Type} [DecidableEq κ] {kv:κ->Value} {cv:ν->Value}
def mpw (kv:κ->Value) (cv:ν->Value) (M:List (κ×ν)):List (Value×Value):=M.map fun p=>(kv p.1,cv p.2)
theorem zjg (hkv:∀a b,kv a=kv b->a=b):∀(M:List (κ×ν)) (k:κ),ze5 (mpw kv cv M) (kv k)=if zbm M k=true then some (zir M k) else none
 | [],k=>rfl
 | p::M,k=>by
  rw [show mpw kv cv (p::M)=(kv p.1,cv p.2)::mpw kv cv M from rfl,zmD]
  by_cases h:p.1=k
  ·subst h
   simp [zbm,zir]
  ·rw [if_neg (fun e=>h (hkv _ _ e)),zjg hkv M k]
   simp only [zbm,zir,if_neg h]
   cases zbm M k<;>simp
theorem zqi (z:ν):∀(M:List (κ×ν)) (k:κ),zbm M k=true->∃p,M[zir M k]?=some p/\p.1=k/\p.2=zhh z M k
 | [],k,h=>by simp [zbm] at h
 | p::M,k,h=>by
  by_cases e:p.1=k
  ·exact ⟨p,by simp [zir,e],e,by simp [zhh,e]⟩
  ·simp only [zbm,if_neg e] at h
   obtain ⟨q,h1,h2,h3⟩:=zqi z M k h
   exact ⟨q,by simp [zir,e,h1],h2,by simp [zhh,e,h3]⟩
theorem zg4 (z:ν):∀(M:List (κ×ν)) (k:κ),zbm M k=false->zhh z M k=z/\zir M k=M.length/\∀v,zcW M k v=M++[(k,v)]
 | [],k,_=>⟨rfl,rfl,fun _=>rfl⟩
 | p::M,k,h=>by
  by_cases e:p.1=k
  ·simp [zbm,e] at h
  ·simp only [zbm,if_neg e] at h
   obtain ⟨h1,h2,h3⟩:=zg4 z M k h
   exact ⟨by simp [zhh,e,h1],by simp [zir,e,h2],fun v=>by simp [zcW,e,h3]⟩
theorem zqj:∀(M:List (κ×ν)) (k:κ) (v:ν),zbm M k=true->zcW M k v=M.set (zir M k) (k,v)
 | [],k,v,h=>by simp [zbm] at h
 | p::M,k,v,h=>by
  by_cases e:p.1=k
  ·simp [zcW,zir,e]
  ·simp only [zbm,if_neg e] at h
   simp [zcW,zir,e,zqj M k v h]
theorem zqk (hkv:∀a b,kv a=kv b->a=b) (z:ν) (M:List (κ×ν)) (k:κ):zpU (mpw kv cv M) (kv k) (cv z)=cv (zhh z M k):=by
 unfold zpU
 rw [zjg hkv]
 cases h:zbm M k with
 | true =>
  obtain ⟨p,h1,h2,h3⟩:=zqi z M k h
  simp [mpw,h1,h3]
 | false=>simp [(zg4 z M k h).1]
theorem zql (hkv:∀a b,kv a=kv b->a=b) (M:List (κ×ν)) (k:κ) (v:ν):Go.AM.mput (mpw kv cv M) (kv k) (cv v)=mpw kv cv (zcW M k v):=by
 unfold Go.AM.mput
 rw [zjg hkv]
 cases h:zbm M k with
 | true=>simp [zqj M k v h,mpw,List.map_set]
 | false=>simp [(zg4 v M k h).2.2 v,mpw]
theorem KeysAre.okW {P:Program} {kt:TypeId} {ok:κ->Bool} (K:KeysAre P kt ok kv) {M:List (κ×ν)} {k:κ} (h:mok ok M k=true):zsg P kt (mpw kv cv M) (kv k):=by
 simp only [mok,Bool.and_eq_true,decide_eq_true_eq] at h
 obtain ⟨⟨h1,h2⟩,h3⟩:=h
 refine ⟨K.keyed,K.key _ h1,fun p hp=>?_,?_⟩
 ·obtain ⟨q,hq,rfl⟩:=List.mem_map.1 hp
  exact K.key _ (List.all_eq_true.1 h2 q hq)
 ·have:(mpw kv cv M).map (·.1)=(M.map (·.1)).map kv:=by simp [mpw]
  rw [this]
  exact List.Pairwise.map _ (fun a b hab e=>hab (K.inj _ _ e)) h3
end
section
variable {P:Program} {N:Nat} {l:List (Nat×AV)} {H:zab} {g:Nat} {lim:Option Nat} {g0 i:Nat} {ops:Array Oper} {K:Fr->zab->Nat->Prop} {r:List Oper} {d:Nat} {ty:TypeId} {pos:String} {after:Array Edge}
 {O:Nat->Prop} {H0:zab} {L Lp:List (Nat×Blk)} {b:Nat} {κ ν:Type} [DecidableEq κ] {kv:κ->Value} {cv:ν->Value} {ok:κ->Bool}
theorem zkT {t:TypeId} {q:TypeId×TypeId} {j:Nat} {z:ν} {M:List (κ×ν)} {k:κ} {x ix:AV} (KK:KeysAre P q.1 ok kv) (hH:H j=some (.obj none (zae (mpw kv cv M)))) (hx:x=.mp j) (hy:zq3 ix=some (kv k)) (hq:zgH P t=some q) (hz:zfX P q.2=some (cv z)) (hk:mok ok M k=true) :
  zkD P t H x ix=some (j,mpw kv cv M,kv k,cv z):=by
 subst hx
 simp only [zkD,hH,hq,zkO,hy,hz,Option.bind_some]
 rw [if_pos (KK.okW hk)]
theorem zlu {t:TypeId} {q:TypeId×TypeId} {x y:Operand} {j:Nat} {z u:ν} {M:List (κ×ν)} {k:κ} {v':AV} (n:Nat) (KK:KeysAre P q.1 ok kv) (hS:St O H0 L H b) (hd:d<N) (hx:evL N l x=.mp j) (hy:zq3 (evL N l y)=some (kv k)) (hn:L[n]?=some (j,.obj none (zae (mpw kv cv M))))
  (hq:zgH P t=some q) (hz:zfX P q.2=some (cv z)) (hu:zg3 ok z M k=some u) (hle:Le v' (.v (cv u)))
  (h:zaN P N none g0 ops K (i+1) r (Fr.of ((d,v')::l)) H g):zaN P N none g0 ops K i (⟨some d,.lookup t x y false,ty,pos,after,none⟩::r) (Fr.of l) H g:=by
 unfold zg3 at hu
 split at hu
 case isFalse=>cases hu
 case isTrue hk =>
 injection hu with hu
 have hm:=zkT (z:=z) KK (hS.get hn) hx hy hq hz hk
 refine zm6 (v:=.v (cv u)) (wr:=none) hd rfl rfl ?_ hle h
 simp only [zaz,hm,Option.map_some,Bool.false_eq_true,if_false,zqk KK.inj,hu]
theorem zlv {t:TypeId} {q:TypeId×TypeId} {x y:Operand} {j:Nat} {z u:ν} {M:List (κ×ν)} {k:κ} {v':AV} (n:Nat) (KK:KeysAre P q.1 ok kv) (hS:St O H0 L H b) (hd:d<N) (hx:evL N l x=.mp j) (hy:zq3 (evL N l y)=some (kv k)) (hn:L[n]?=some (j,.obj none (zae (mpw kv cv M))))
  (hq:zgH P t=some q) (hz:zfX P q.2=some (cv z)) (hu:zg3 ok z M k=some u) (hle:Le v' (.v (cv u)))
  (h:zaN P N none g0 ops K (i+1) r (Fr.of ((d,.tup [v',.v (.bool (zbm M k))])::l)) H g):zaN P N none g0 ops K i (⟨some d,.lookup t x y true,ty,pos,after,none⟩::r) (Fr.of l) H g:=by
 unfold zg3 at hu
 split at hu
 case isFalse=>cases hu
 case isTrue hk =>
 injection hu with hu
 have hm:=zkT (z:=z) KK (hS.get hn) hx hy hq hz hk
 refine zm6 (v:=.tup [.v (cv u),.v (.bool (zbm M k))]) (wr:=none) hd rfl rfl ?_ (.tupL (.cons hle (.cons (.refl _) .nil))) h
 have h2:(ze5 (mpw kv cv M) (kv k)).isSome=zbm M k:=by
  rw [zjg KK.inj]
  cases zbm M k<;>simp
 simp only [zaz,hm,Option.map_some,if_true,zqk KK.inj,hu,h2]
theorem zkt {t:TypeId} {q:TypeId×TypeId} {x y z:Operand} {j:Nat} {M M':List (κ×ν)} {k:κ} {v z0:ν} {L':List (Nat×Blk)} (n:Nat) (KK:KeysAre P q.1 ok kv) (hp:lim=none\/zfo ops (Fr.of l) i=true) (hS:St O H0 L H b) (hx:evL N l x=.mp j) (hy:zq3 (evL N l y)=some (kv k)) (hv:zsf (evL N l z)=some (cv v)) (hn:L[n]?=some (j,.obj none (zae (mpw kv cv M))))
  (hq:zgH P t=some q) (hz:zfX P q.2=some (cv z0)) (hM:zhO ok M k v=some M') (hL:putAt L n (.obj none (zae (mpw kv cv M')))=L')
  (h:∀H',St O H0 L' H' b->zaN P N lim g0 ops K (i+1) r (Fr.of l) H' g):zaN P N lim g0 ops K i (⟨none,.mapUpdate t x y z,ty,pos,after,none⟩::r) (Fr.of l) H g:=by
 unfold zhO at hM
 split at hM
 case isFalse=>cases hM
 case isTrue hk =>
 injection hM with hM
 subst hM
 have hm:=zkT (z:=z0) KK (hS.get hn) hx hy hq hz hk
 have he:zaz P (g0+i) (.mapUpdate t x y z) (evL N l) H=some (.any,some (j,.obj none (zae (mpw kv cv (zcW M k v))))):=by
  simp only [zaz,hm,hv,Option.bind_some,Option.map_some,zql KK.inj]
 have hst:=hS.put hn (.obj none (zae (mpw kv cv (zcW M k v))))
 rw [hL] at hst
 rcases hp with rfl | hp
 ·exact zgW (v:=.any) (wr:=some (j,_)) rfl rfl he (h _ hst)
 ·by_cases ho:old lim ops i (.mapUpdate t x y z) (evL N l)=true
  ·exact zgW (v:=.any) (wr:=some (j,_)) rfl ho he (h _ hst)
  ·simp only [zaN,zbL,opQ,zbV,zeQ,ho,if_false]
   exact ⟨hp,_,_,he,h _ hst⟩
theorem zs7 {t:TypeId} {q:TypeId×TypeId} {x y z:Operand} {j:Nat} {M M':List (κ×ν)} {k:κ} {v z0:ν} {L':List (Nat×Blk)} (n:Nat) (KK:KeysAre P q.1 ok kv) (hp:lim=none\/zfo ops (Fr.of l) i=true) (hS:St O H0 L H b) (hx:evL N l x=.mp j) (hy:zq3 (evL N l y)=some (kv k)) (hv:zsf (evL N l z)=some (cv v)) (hn:L[n]?=some (j,.obj none (zae (mpw kv cv M))))
  (hq:zgH P t=some q) (hz:zfX P q.2=some (cv z0)) (hM:zhO ok M k v=some M') (hL:putAt L n (.obj none (zae (mpw kv cv M')))=L')
  (h:∀H',St O H0 L' H' b->zaN P N lim g0 ops K (i+1) r (Fr.of l) H' g):zaN P N lim g0 ops K i (⟨none,.insert t x y z,ty,pos,after,none⟩::r) (Fr.of l) H g:=by
 unfold zhO at hM
 split at hM
 case isFalse=>cases hM
 case isTrue hk =>
 injection hM with hM
 subst hM
 have hm:=zkT (z:=z0) KK (hS.get hn) hx hy hq hz hk
 have he:zaz P (g0+i) (.insert t x y z) (evL N l) H=some (.any,some (j,.obj none (zae (mpw kv cv (zcW M k v))))):=by
  simp only [zaz,hm,hv,Option.bind_some,Option.map_some,zql KK.inj]
 have hst:=hS.put hn (.obj none (zae (mpw kv cv (zcW M k v))))
 rw [hL] at hst
 rcases hp with rfl | hp
 ·exact zgW (v:=.any) (wr:=some (j,_)) rfl rfl he (h _ hst)
 ·by_cases ho:old lim ops i (.insert t x y z) (evL N l)=true
  ·exact zgW (v:=.any) (wr:=some (j,_)) rfl ho he (h _ hst)
  ·simp only [zaN,zbL,opQ,zbV,zeQ,ho,if_false]
   exact ⟨hp,_,_,he,h _ hst⟩
theorem zmH {t:TypeId} {q:TypeId×TypeId} (hS:St O H0 L H b) (hd:d<N) (hq:zgH P t=some q) (hb:b<=g0+i)
  (h:∀H',St O H0 ((g0+i,.obj none (zae (mpw kv cv ([]:List (κ×ν)))))::L) H' (g0+i+1)->zaN P N lim g0 ops K (i+1) r (Fr.of ((d,.mp (g0+i))::l)) H' g):zaN P N lim g0 ops K i (⟨some d,.makeMap t none,ty,pos,after,none⟩::r) (Fr.of l) H g :=
 za7 (v:=.mp (g0+i)) (wr:=some (g0+i,.obj none (zae []))) hd rfl (by cases lim<;>rfl) (by simp [zaz,hq]) (h _ (hS.add _ hb))
end
end Go.AM
