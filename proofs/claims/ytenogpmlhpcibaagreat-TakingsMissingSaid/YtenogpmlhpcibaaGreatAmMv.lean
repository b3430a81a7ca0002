/-
  The abstract machine: maps whose values are of any type.
  Conditions: none; it speaks of any program.
-/
import Derived.Test.YtenogpmlhpcibaaGreatAmLw
set_option linter.all false
namespace Go.AM
open Go Go.RowKit
section
variable {κ ν:Type} [DecidableEq κ] {kv:κ->Value} {cv:ν->Value}
def mpw (kv:κ->Value) (cv:ν->Value) (M:List (κ×ν)):List (Value×Value):=M.map fun p=>(kv p.1,cv p.2)
theorem zj9 (hkv:∀a b,kv a=kv b->a=b):∀(M:List (κ×ν)) (k:κ),zf7 (mpw kv cv M) (kv k)=if zdo M k=true then some (zsn M k) else none
 | [],k=>rfl
 | p::M,k=>by
  rw [show mpw kv cv (p::M)=(kv p.1,cv p.2)::mpw kv cv M from rfl,zrS]
  by_cases h:p.1=k
  ·subst h
   simp [zdo,zsn]
  ·rw [if_neg (fun e=>h (hkv _ _ e)),zj9 hkv M k]
   simp only [zdo,zsn,if_neg h]
   cases zdo M k<;>simp
theorem zqJ (z:ν):∀(M:List (κ×ν)) (k:κ),zdo M k=true->∃p,M[zsn M k]?=some p/\p.1=k/\p.2=zib z M k
 | [],k,h=>by simp [zdo] at h
 | p::M,k,h=>by
  by_cases e:p.1=k
  ·exact ⟨p,by simp [zsn,e],e,by simp [zib,e]⟩
  ·simp only [zdo,if_neg e] at h
   obtain ⟨q,h1,h2,h3⟩:=zqJ z M k h
   exact ⟨q,by simp [zsn,e,h1],h2,by simp [zib,e,h3]⟩
theorem zh0 (z:ν):∀(M:List (κ×ν)) (k:κ),zdo M k=false->zib z M k=z/\zsn M k=M.length/\∀v,zkG M k v=M++[(k,v)]
 | [],k,_=>⟨rfl,rfl,fun _=>rfl⟩
 | p::M,k,h=>by
  by_cases e:p.1=k
  ·simp [zdo,e] at h
  ·simp only [zdo,if_neg e] at h
   obtain ⟨h1,h2,h3⟩:=zh0 z M k h
   exact ⟨by simp [zib,e,h1],by simp [zsn,e,h2],fun v=>by simp [zkG,e,h3]⟩
theorem zqK:∀(M:List (κ×ν)) (k:κ) (v:ν),zdo M k=true->zkG M k v=M.set (zsn M k) (k,v)
 | [],k,v,h=>by simp [zdo] at h
 | p::M,k,v,h=>by
  by_cases e:p.1=k
  ·simp [zkG,zsn,e]
  ·simp only [zdo,if_neg e] at h
   simp [zkG,zsn,e,zqK M k v h]
theorem zqL (hkv:∀a b,kv a=kv b->a=b) (z:ν) (M:List (κ×ν)) (k:κ):zsm (mpw kv cv M) (kv k) (cv z)=cv (zib z M k):=by
 unfold zsm
 rw [zj9 hkv]
 cases h:zdo M k with
 | true =>
  obtain ⟨p,h1,h2,h3⟩:=zqJ z M k h
  simp [mpw,h1,h3]
 | false=>simp [(zh0 z M k h).1]
theorem zqM (hkv:∀a b,kv a=kv b->a=b) (M:List (κ×ν)) (k:κ) (v:ν):Go.AM.mput (mpw kv cv M) (kv k) (cv v)=mpw kv cv (zkG M k v):=by
 unfold Go.AM.mput
 rw [zj9 hkv]
 cases h:zdo M k with
 | true=>simp [zqK M k v h,mpw,List.map_set]
 | false=>simp [(zh0 v M k h).2.2 v,mpw]
theorem KeysAre.okW {P:Program} {kt:TypeId} {ok:κ->Bool} (K:KeysAre P kt ok kv) {M:List (κ×ν)} {k:κ} (h:mok ok M k=true):zsp P kt (mpw kv cv M) (kv k):=by
 simp only [mok,Bool.and_eq_true,decide_eq_true_eq] at h
 obtain ⟨⟨h1,h2⟩,h3⟩:=h
 refine ⟨K.keyed,K.key _ h1,fun p hp=>?_,?_⟩
 ·obtain ⟨q,hq,rfl⟩:=List.mem_map.1 hp
  exact K.key _ (List.all_eq_true.1 h2 q hq)
 ·have:(mpw kv cv M).map (·.1)=(M.map (·.1)).map kv:=by simp [mpw]
  rw [this]
  exact List.Pairwise.map _ (fun a b hab e=>hab (K.inj _ _ e)) h3
end
section
variable {P:Program} {N:Nat} {l:List (Nat×AV)} {H:zac} {g:Nat} {lim:Option Nat} {g0 i:Nat} {ops:Array Oper} {K:Fr->zac->Nat->Prop} {r:List Oper} {d:Nat} {ty:TypeId} {pos:String} {after:Array Edge}
 {O:Nat->Prop} {H0:zac} {L Lp:List (Nat×Blk)} {b:Nat} {κ ν:Type} [DecidableEq κ] {kv:κ->Value} {cv:ν->Value} {ok:κ->Bool}
theorem zlz {t:TypeId} {q:TypeId×TypeId} {j:Nat} {z:ν} {M:List (κ×ν)} {k:κ} {x ix:AV} (KK:KeysAre P q.1 ok kv) (hH:H j=some (.obj none (zaK (mpw kv cv M)))) (hx:x=.mp j) (hy:zva ix=some (kv k)) (hq:zjS P t=some q) (hz:zhK P q.2=some (cv z)) (hk:mok ok M k=true) :
  zlG P t H x ix=some (j,mpw kv cv M,kv k,cv z):=by
 subst hx
 simp only [zlG,hH,hq,zqs,hy,hz,Option.bind_some]
 rw [if_pos (KK.okW hk)]
theorem zl7 {t:TypeId} {q:TypeId×TypeId} {x y:Operand} {j:Nat} {z u:ν} {M:List (κ×ν)} {k:κ} {v':AV} (n:Nat) (KK:KeysAre P q.1 ok kv) (hS:St O H0 L H b) (hd:d<N) (hx:evL N l x=.mp j) (hy:zva (evL N l y)=some (kv k)) (hn:L[n]?=some (j,.obj none (zaK (mpw kv cv M))))
  (hq:zjS P t=some q) (hz:zhK P q.2=some (cv z)) (hu:zhV ok z M k=some u) (hle:Le v' (.v (cv u)))
  (h:zaW P N none g0 ops K (i+1) r (Fr.of ((d,v')::l)) H g):zaW P N none g0 ops K i (⟨some d,.lookup t x y false,ty,pos,after,none⟩::r) (Fr.of l) H g:=by
 unfold zhV at hu
 split at hu
 case isFalse=>cases hu
 case isTrue hk =>
 injection hu with hu
 have hm:=zlz (z:=z) KK (hS.get hn) hx hy hq hz hk
 refine zly (v:=.v (cv u)) (wr:=none) hd rfl rfl ?_ hle h
 simp only [zaL,hm,Option.map_some,Bool.false_eq_true,if_false,zqL KK.inj,hu]
theorem zl8 {t:TypeId} {q:TypeId×TypeId} {x y:Operand} {j:Nat} {z u:ν} {M:List (κ×ν)} {k:κ} {v':AV} (n:Nat) (KK:KeysAre P q.1 ok kv) (hS:St O H0 L H b) (hd:d<N) (hx:evL N l x=.mp j) (hy:zva (evL N l y)=some (kv k)) (hn:L[n]?=some (j,.obj none (zaK (mpw kv cv M))))
  (hq:zjS P t=some q) (hz:zhK P q.2=some (cv z)) (hu:zhV ok z M k=some u) (hle:Le v' (.v (cv u)))
  (h:zaW P N none g0 ops K (i+1) r (Fr.of ((d,.tup [v',.v (.bool (zdo M k))])::l)) H g):zaW P N none g0 ops K i (⟨some d,.lookup t x y true,ty,pos,after,none⟩::r) (Fr.of l) H g:=by
 unfold zhV at hu
 split at hu
 case isFalse=>cases hu
 case isTrue hk =>
 injection hu with hu
 have hm:=zlz (z:=z) KK (hS.get hn) hx hy hq hz hk
 refine zly (v:=.tup [.v (cv u),.v (.bool (zdo M k))]) (wr:=none) hd rfl rfl ?_ (.tupL (.cons hle (.cons (.refl _) .nil))) h
 have h2:(zf7 (mpw kv cv M) (kv k)).isSome=zdo M k:=by
  rw [zj9 KK.inj]
  cases zdo M k<;>simp
 simp only [zaL,hm,Option.map_some,if_true,zqL KK.inj,hu,h2]
theorem zlf {t:TypeId} {q:TypeId×TypeId} {x y z:Operand} {j:Nat} {M M':List (κ×ν)} {k:κ} {v z0:ν} {L':List (Nat×Blk)} (n:Nat) (KK:KeysAre P q.1 ok kv) (hp:lim=none\/zgP ops (Fr.of l) i=true) (hS:St O H0 L H b) (hx:evL N l x=.mp j) (hy:zva (evL N l y)=some (kv k)) (hv:zt9 (evL N l z)=some (cv v)) (hn:L[n]?=some (j,.obj none (zaK (mpw kv cv M))))
  (hq:zjS P t=some q) (hz:zhK P q.2=some (cv z0)) (hM:zl2 ok M k v=some M') (hL:putAt L n (.obj none (zaK (mpw kv cv M')))=L')
  (h:∀H',St O H0 L' H' b->zaW P N lim g0 ops K (i+1) r (Fr.of l) H' g):zaW P N lim g0 ops K i (⟨none,.mapUpdate t x y z,ty,pos,after,none⟩::r) (Fr.of l) H g:=by
 unfold zl2 at hM
 split at hM
 case isFalse=>cases hM
 case isTrue hk =>
 injection hM with hM
 subst hM
 have hm:=zlz (z:=z0) KK (hS.get hn) hx hy hq hz hk
 have he:zaL P (g0+i) (.mapUpdate t x y z) (evL N l) H=some (.any,some (j,.obj none (zaK (mpw kv cv (zkG M k v))))):=by
  simp only [zaL,hm,hv,Option.bind_some,Option.map_some,zqM KK.inj]
 have hst:=hS.put hn (.obj none (zaK (mpw kv cv (zkG M k v))))
 rw [hL] at hst
 rcases hp with rfl | hp
 ·exact zkN (v:=.any) (wr:=some (j,_)) rfl rfl he (h _ hst)
 ·by_cases ho:old lim ops i (.mapUpdate t x y z) (evL N l)=true
  ·exact zkN (v:=.any) (wr:=some (j,_)) rfl ho he (h _ hst)
  ·simp only [zaW,zbX,opQ,zb5,ze1,ho,if_false]
   exact ⟨hp,_,_,he,h _ hst⟩
theorem zte {t:TypeId} {q:TypeId×TypeId} {x y z:Operand} {j:Nat} {M M':List (κ×ν)} {k:κ} {v z0:ν} {L':List (Nat×Blk)} (n:Nat) (KK:KeysAre P q.1 ok kv) (hp:lim=none\/zgP ops (Fr.of l) i=true) (hS:St O H0 L H b) (hx:evL N l x=.mp j) (hy:zva (evL N l y)=some (kv k)) (hv:zt9 (evL N l z)=some (cv v)) (hn:L[n]?=some (j,.obj none (zaK (mpw kv cv M))))
  (hq:zjS P t=some q) (hz:zhK P q.2=some (cv z0)) (hM:zl2 ok M k v=some M') (hL:putAt L n (.obj none (zaK (mpw kv cv M')))=L')
  (h:∀H',St O H0 L' H' b->zaW P N lim g0 ops K (i+1) r (Fr.of l) H' g):zaW P N lim g0 ops K i (⟨none,.insert t x y z,ty,pos,after,none⟩::r) (Fr.of l) H g:=by
 unfold zl2 at hM
 split at hM
 case isFalse=>cases hM
 case isTrue hk =>
 injection hM with hM
 subst hM
 have hm:=zlz (z:=z0) KK (hS.get hn) hx hy hq hz hk
 have he:zaL P (g0+i) (.insert t x y z) (evL N l) H=some (.any,some (j,.obj none (zaK (mpw kv cv (zkG M k v))))):=by
  simp only [zaL,hm,hv,Option.bind_some,Option.map_some,zqM KK.inj]
 have hst:=hS.put hn (.obj none (zaK (mpw kv cv (zkG M k v))))
 rw [hL] at hst
 rcases hp with rfl | hp
 ·exact zkN (v:=.any) (wr:=some (j,_)) rfl rfl he (h _ hst)
 ·by_cases ho:old lim ops i (.insert t x y z) (evL N l)=true
  ·exact zkN (v:=.any) (wr:=some (j,_)) rfl ho he (h _ hst)
  ·simp only [zaW,zbX,opQ,zb5,ze1,ho,if_false]
   exact ⟨hp,_,_,he,h _ hst⟩
theorem znp {t:TypeId} {q:TypeId×TypeId} (hS:St O H0 L H b) (hd:d<N) (hq:zjS P t=some q) (hb:b<=g0+i)
  (h:∀H',St O H0 ((g0+i,.obj none (zaK (mpw kv cv ([]:List (κ×ν)))))::L) H' (g0+i+1)->zaW P N lim g0 ops K (i+1) r (Fr.of ((d,.mp (g0+i))::l)) H' g):zaW P N lim g0 ops K i (⟨some d,.makeMap t none,ty,pos,after,none⟩::r) (Fr.of l) H g :=
 zbB (v:=.mp (g0+i)) (wr:=some (g0+i,.obj none (zaK []))) hd rfl (by cases lim<;>rfl) (by simp [zaL,hq]) (h _ (hS.add _ hb))
end
end Go.AM
