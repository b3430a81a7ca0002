/-
  The abstract machine: maps whose values are of any type.
  Conditions: none; it speaks of any program.
-/
import Derived.Test.YtenogpmlhpcibaaGreatAmLw
set_option linter.all false
namespace Go.AM
open Go Go.RowKit
section
variable {κ ν:Type} [DecidableEq κ] {kv:κ->Value} {cv:ν->Value}
def mpw (kv:κ->Value) (cv:ν->Value) (M:List (κ×ν)):List (Value×Value):=M.map fun p=>(kv p.1,cv p.2)
theorem zkP (hkv:∀a b,kv a=kv b->a=b):∀(M:List (κ×ν)) (k:κ),zgb (mpw kv cv M) (kv k)=if zdf M k=true then some (ztv M k) else none
 | [],k=>rfl
 | p::M,k=>by
  rw [show mpw kv cv (p::M)=(kv p.1,cv p.2)::mpw kv cv M from rfl,zsY]
  by_cases h:p.1=k
  ·subst h
   simp [zdf,ztv]
  ·rw [if_neg (fun e=>h (hkv _ _ e)),zkP hkv M k];simp only [zdf,ztv,if_neg h]
   cases zdf M k<;>simp
theorem zrV (z:ν):∀(M:List (κ×ν)) (k:κ),zdf M k=true->∃p,M[ztv M k]?=some p/\p.1=k/\p.2=ziB z M k
 | [],k,h=>by simp [zdf] at h
 | p::M,k,h=>by
  by_cases e:p.1=k
  ·exact ⟨p,by simp [ztv,e],e,by simp [ziB,e]⟩
  ·simp only [zdf,if_neg e] at h
   obtain ⟨q,h1,h2,h3⟩:=zrV z M k h;exact ⟨q,by simp [ztv,e,h1],h2,by simp [ziB,e,h3]⟩
theorem zin (z:ν):∀(M:List (κ×ν)) (k:κ),zdf M k=false->ziB z M k=z/\ztv M k=M.length/\∀v,zln M k v=M++[(k,v)]
 | [],k,_=>⟨rfl,rfl,fun _=>rfl⟩
 | p::M,k,h=>by
  by_cases e:p.1=k
  ·simp [zdf,e] at h
  ·simp only [zdf,if_neg e] at h
   obtain ⟨h1,h2,h3⟩:=zin z M k h;exact ⟨by simp [ziB,e,h1],by simp [ztv,e,h2],fun v=>by simp [zln,e,h3]⟩
theorem zrW:∀(M:List (κ×ν)) (k:κ) (v:ν),zdf M k=true->zln M k v=M.set (ztv M k) (k,v)
 | [],k,v,h=>by simp [zdf] at h
 | p::M,k,v,h=>by
  by_cases e:p.1=k
  ·simp [zln,ztv,e]
  ·simp only [zdf,if_neg e] at h
   simp [zln,ztv,e,zrW M k v h]
theorem zrX (hkv:∀a b,kv a=kv b->a=b) (z:ν) (M:List (κ×ν)) (k:κ):ztu (mpw kv cv M) (kv k) (cv z)=cv (ziB z M k):=by
 unfold ztu
 rw [zkP hkv];cases h:zdf M k with
 | true =>
  obtain ⟨p,h1,h2,h3⟩:=zrV z M k h;simp [mpw,h1,h3]
 | false=>simp [(zin z M k h).1]
theorem zrY (hkv:∀a b,kv a=kv b->a=b) (M:List (κ×ν)) (k:κ) (v:ν):Go.AM.mput (mpw kv cv M) (kv k) (cv v)=mpw kv cv (zln M k v):=by
 unfold Go.AM.mput
 rw [zkP hkv];cases h:zdf M k with
 | true=>simp [zrW M k v h,mpw,List.map_set]
 | false=>simp [(zin v M k h).2.2 v,mpw]
theorem KeysAre.okW {P:Program} {kt:TypeId} {ok:κ->Bool} (K:KeysAre P kt ok kv) {M:List (κ×ν)} {k:κ} (h:mok ok M k=true):ztw P kt (mpw kv cv M) (kv k):=by
 simp only [mok,Bool.and_eq_true,decide_eq_true_eq] at h
 obtain ⟨⟨h1,h2⟩,h3⟩:=h;refine ⟨K.keyed,K.key _ h1,fun p hp=>?_,?_⟩
 ·obtain ⟨q,hq,rfl⟩:=List.mem_map.1 hp;exact K.key _ (List.all_eq_true.1 h2 q hq)
 ·have:(mpw kv cv M).map (·.1)=(M.map (·.1)).map kv:=by simp [mpw]
  rw [this];exact List.Pairwise.map _ (fun a b hab e=>hab (K.inj _ _ e)) h3
end
section
variable {P:Program} {N:Nat} {l:List (Nat×AV)} {H:zad} {g:Nat} {lim:Option Nat} {g0 i:Nat} {ops:Array Oper} {K:Fr->zad->Nat->Prop} {r:List Oper} {d:Nat} {ty:TypeId} {pos:String} {after:Array Edge}
 {O:Nat->Prop} {H0:zad} {L Lp:List (Nat×Blk)} {b:Nat} {κ ν:Type} [DecidableEq κ] {kv:κ->Value} {cv:ν->Value} {ok:κ->Bool}
theorem zmx {t:TypeId} {q:TypeId×TypeId} {j:Nat} {z:ν} {M:List (κ×ν)} {k:κ} {x ix:AV} (KK:KeysAre P q.1 ok kv) (hH:H j=some (.obj none (zaJ (mpw kv cv M)))) (hx:x=.mp j) (hy:zwo ix=some (kv k)) (hq:zky P t=some q) (hz:zh8 P q.2=some (cv z)) (hk:mok ok M k=true) :
  zmG P t H x ix=some (j,mpw kv cv M,kv k,cv z):=by
 subst hx
 simp only [zmG,hH,hq,zrI,hy,hz,Option.bind_some]
 rw [if_pos (KK.okW hk)]
theorem znc {t:TypeId} {q:TypeId×TypeId} {x y:Operand} {j:Nat} {z u:ν} {M:List (κ×ν)} {k:κ} {v':AV} (n:Nat) (KK:KeysAre P q.1 ok kv) (hS:St O H0 L H b) (hd:d<N) (hx:evL N l x=.mp j) (hy:zwo (evL N l y)=some (kv k)) (hn:L[n]?=some (j,.obj none (zaJ (mpw kv cv M))))
  (hq:zky P t=some q) (hz:zh8 P q.2=some (cv z)) (hu:zii ok z M k=some u) (hle:Le v' (.v (cv u)))
  (h:za0 P N none g0 ops K (i+1) r (Fr.of ((d,v')::l)) H g):za0 P N none g0 ops K i (⟨some d,.lookup t x y false,ty,pos,after,none⟩::r) (Fr.of l) H g:=by
 unfold zii at hu
 split at hu
 case isFalse=>cases hu
 case isTrue hk =>
 injection hu with hu
 have hm:=zmx (z:=z) KK (hS.get hn) hx hy hq hz hk
 refine zmu (v:=.v (cv u)) (wr:=none) hd rfl rfl ?_ hle h;simp only [zaI,hm,Option.map_some,Bool.false_eq_true,if_false,zrX KK.inj,hu]
theorem znd {t:TypeId} {q:TypeId×TypeId} {x y:Operand} {j:Nat} {z u:ν} {M:List (κ×ν)} {k:κ} {v':AV} (n:Nat) (KK:KeysAre P q.1 ok kv) (hS:St O H0 L H b) (hd:d<N) (hx:evL N l x=.mp j) (hy:zwo (evL N l y)=some (kv k)) (hn:L[n]?=some (j,.obj none (zaJ (mpw kv cv M))))
  (hq:zky P t=some q) (hz:zh8 P q.2=some (cv z)) (hu:zii ok z M k=some u) (hle:Le v' (.v (cv u)))
  (h:za0 P N none g0 ops K (i+1) r (Fr.of ((d,.tup [v',.v (.bool (zdf M k))])::l)) H g):za0 P N none g0 ops K i (⟨some d,.lookup t x y true,ty,pos,after,none⟩::r) (Fr.of l) H g:=by
 unfold zii at hu
 split at hu
 case isFalse=>cases hu
 case isTrue hk =>
 injection hu with hu
 have hm:=zmx (z:=z) KK (hS.get hn) hx hy hq hz hk
 refine zmu (v:=.tup [.v (cv u),.v (.bool (zdf M k))]) (wr:=none) hd rfl rfl ?_ (.tupL (.cons hle (.cons (.refl _) .nil))) h;have h2:(zgb (mpw kv cv M) (kv k)).isSome=zdf M k:=by
  rw [zkP KK.inj];cases zdf M k<;>simp
 simp only [zaI,hm,Option.map_some,if_true,zrX KK.inj,hu,h2]
theorem zl1 {t:TypeId} {q:TypeId×TypeId} {x y z:Operand} {j:Nat} {M M':List (κ×ν)} {k:κ} {v z0:ν} {L':List (Nat×Blk)} (n:Nat) (KK:KeysAre P q.1 ok kv) (hp:lim=none\/zgY ops (Fr.of l) i=true) (hS:St O H0 L H b) (hx:evL N l x=.mp j) (hy:zwo (evL N l y)=some (kv k)) (hv:zvf (evL N l z)=some (cv v)) (hn:L[n]?=some (j,.obj none (zaJ (mpw kv cv M))))
  (hq:zky P t=some q) (hz:zh8 P q.2=some (cv z0)) (hM:zmZ ok M k v=some M') (hL:putAt L n (.obj none (zaJ (mpw kv cv M')))=L')
  (h:∀H',St O H0 L' H' b->za0 P N lim g0 ops K (i+1) r (Fr.of l) H' g):za0 P N lim g0 ops K i (⟨none,.mapUpdate t x y z,ty,pos,after,none⟩::r) (Fr.of l) H g:=by
 unfold zmZ at hM
 split at hM
 case isFalse=>cases hM
 case isTrue hk =>
 injection hM with hM
 subst hM
 have hm:=zmx (z:=z0) KK (hS.get hn) hx hy hq hz hk
 have he:zaI P (g0+i) (.mapUpdate t x y z) (evL N l) H=some (.any,some (j,.obj none (zaJ (mpw kv cv (zln M k v))))):=by
  simp only [zaI,hm,hv,Option.bind_some,Option.map_some,zrY KK.inj]
 have hst:=hS.put hn (.obj none (zaJ (mpw kv cv (zln M k v))))
 rw [hL] at hst;rcases hp with rfl | hp
 ·exact zlv (v:=.any) (wr:=some (j,_)) rfl rfl he (h _ hst)
 ·by_cases ho:old lim ops i (.mapUpdate t x y z) (evL N l)=true
  ·exact zlv (v:=.any) (wr:=some (j,_)) rfl ho he (h _ hst)
  ·simp only [za0,zbT,opQ,zb1,zeW,ho,if_false]
   exact ⟨hp,_,_,he,h _ hst⟩
theorem zui {t:TypeId} {q:TypeId×TypeId} {x y z:Operand} {j:Nat} {M M':List (κ×ν)} {k:κ} {v z0:ν} {L':List (Nat×Blk)} (n:Nat) (KK:KeysAre P q.1 ok kv) (hp:lim=none\/zgY ops (Fr.of l) i=true) (hS:St O H0 L H b) (hx:evL N l x=.mp j) (hy:zwo (evL N l y)=some (kv k)) (hv:zvf (evL N l z)=some (cv v)) (hn:L[n]?=some (j,.obj none (zaJ (mpw kv cv M))))
  (hq:zky P t=some q) (hz:zh8 P q.2=some (cv z0)) (hM:zmZ ok M k v=some M') (hL:putAt L n (.obj none (zaJ (mpw kv cv M')))=L')
  (h:∀H',St O H0 L' H' b->za0 P N lim g0 ops K (i+1) r (Fr.of l) H' g):za0 P N lim g0 ops K i (⟨none,.insert t x y z,ty,pos,after,none⟩::r) (Fr.of l) H g:=by
 unfold zmZ at hM
 split at hM
 case isFalse=>cases hM
 case isTrue hk =>
 injection hM with hM
 subst hM
 have hm:=zmx (z:=z0) KK (hS.get hn) hx hy hq hz hk
 have he:zaI P (g0+i) (.insert t x y z) (evL N l) H=some (.any,some (j,.obj none (zaJ (mpw kv cv (zln M k v))))):=by
  simp only [zaI,hm,hv,Option.bind_some,Option.map_some,zrY KK.inj]
 have hst:=hS.put hn (.obj none (zaJ (mpw kv cv (zln M k v))))
 rw [hL] at hst;rcases hp with rfl | hp
 ·exact zlv (v:=.any) (wr:=some (j,_)) rfl rfl he (h _ hst)
 ·by_cases ho:old lim ops i (.insert t x y z) (evL N l)=true
  ·exact zlv (v:=.any) (wr:=some (j,_)) rfl ho he (h _ hst)
  ·simp only [za0,zbT,opQ,zb1,zeW,ho,if_false]
   exact ⟨hp,_,_,he,h _ hst⟩
theorem zow {t:TypeId} {q:TypeId×TypeId} (hS:St O H0 L H b) (hd:d<N) (hq:zky P t=some q) (hb:b<=g0+i)
  (h:∀H',St O H0 ((g0+i,.obj none (zaJ (mpw kv cv ([]:List (κ×ν)))))::L) H' (g0+i+1)->za0 P N lim g0 ops K (i+1) r (Fr.of ((d,.mp (g0+i))::l)) H' g):za0 P N lim g0 ops K i (⟨some d,.makeMap t none,ty,pos,after,none⟩::r) (Fr.of l) H g :=
 zbq (v:=.mp (g0+i)) (wr:=some (g0+i,.obj none (zaJ []))) hd rfl (by cases lim<;>rfl) (by simp [zaI,hq]) (h _ (hS.add _ hb))
end
end Go.AM
