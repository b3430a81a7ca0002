/-
  The abstract machine: maps whose values are of any type.
  Conditions: none; it speaks of any program.
-/
import Derived.Test.YtchhkifidbkjcaaAmLw
set_option linter.all false
namespace Go.AM
open Go Go.RowKit
section
variable {κ ν:Type} [DecidableEq κ] {kv:κ->Value} {cv:ν->Value}
def mpw (kv:κ->Value) (cv:ν->Value) (M:List (κ×ν)):List (Value×Value):=M.map fun p=>(kv p.1,cv p.2)
theorem ziH (hkv:∀a b,kv a=kv b->a=b):∀(M:List (κ×ν)) (k:κ),zex (mpw kv cv M) (kv k)=if zbt M k=true then some (zkB M k) else none
 | [],k=>rfl
 | p::M,k=>by
  rw [show mpw kv cv (p::M)=(kv p.1,cv p.2)::mpw kv cv M from rfl,zlY]
  by_cases h:p.1=k
  ·subst h
   simp [zbt,zkB]
  ·rw [if_neg (fun e=>h (hkv _ _ e)),ziH hkv M k]
   simp only [zbt,zkB,if_neg h]
   cases zbt M k<;>simp
theorem zpu (z:ν):∀(M:List (κ×ν)) (k:κ),zbt M k=true->∃p,M[zkB M k]?=some p/\p.1=k/\p.2=zgO z M k
 | [],k,h=>by simp [zbt] at h
 | p::M,k,h=>by
  by_cases e:p.1=k
  ·exact ⟨p,by simp [zkB,e],e,by simp [zgO,e]⟩
  ·simp only [zbt,if_neg e] at h
   obtain ⟨q,h1,h2,h3⟩:=zpu z M k h
   exact ⟨q,by simp [zkB,e,h1],h2,by simp [zgO,e,h3]⟩
theorem zgA (z:ν):∀(M:List (κ×ν)) (k:κ),zbt M k=false->zgO z M k=z/\zkB M k=M.length/\∀v,zf8 M k v=M++[(k,v)]
 | [],k,_=>⟨rfl,rfl,fun _=>rfl⟩
 | p::M,k,h=>by
  by_cases e:p.1=k
  ·simp [zbt,e] at h
  ·simp only [zbt,if_neg e] at h
   obtain ⟨h1,h2,h3⟩:=zgA z M k h
   exact ⟨by simp [zgO,e,h1],by simp [zkB,e,h2],fun v=>by simp [zf8,e,h3]⟩
theorem zpv:∀(M:List (κ×ν)) (k:κ) (v:ν),zbt M k=true->zf8 M k v=M.set (zkB M k) (k,v)
 | [],k,v,h=>by simp [zbt] at h
 | p::M,k,v,h=>by
  by_cases e:p.1=k
  ·simp [zf8,zkB,e]
  ·simp only [zbt,if_neg e] at h
   simp [zf8,zkB,e,zpv M k v h]
theorem zpw (hkv:∀a b,kv a=kv b->a=b) (z:ν) (M:List (κ×ν)) (k:κ):zpb (mpw kv cv M) (kv k) (cv z)=cv (zgO z M k):=by
 unfold zpb
 rw [ziH hkv]
 cases h:zbt M k with
 | true =>
  obtain ⟨p,h1,h2,h3⟩:=zpu z M k h
  simp [mpw,h1,h3]
 | false=>simp [(zgA z M k h).1]
theorem zpx (hkv:∀a b,kv a=kv b->a=b) (M:List (κ×ν)) (k:κ) (v:ν):Go.AM.mput (mpw kv cv M) (kv k) (cv v)=mpw kv cv (zf8 M k v):=by
 unfold Go.AM.mput
 rw [ziH hkv]
 cases h:zbt M k with
 | true=>simp [zpv M k v h,mpw,List.map_set]
 | false=>simp [(zgA v M k h).2.2 v,mpw]
theorem KeysAre.okW {P:Program} {kt:TypeId} {ok:κ->Bool} (K:KeysAre P kt ok kv) {M:List (κ×ν)} {k:κ} (h:mok ok M k=true):zrd P kt (mpw kv cv M) (kv k):=by
 simp only [mok,Bool.and_eq_true,decide_eq_true_eq] at h
 obtain ⟨⟨h1,h2⟩,h3⟩:=h
 refine ⟨K.keyed,K.key _ h1,fun p hp=>?_,?_⟩
 ·obtain ⟨q,hq,rfl⟩:=List.mem_map.1 hp
  exact K.key _ (List.all_eq_true.1 h2 q hq)
 ·have:(mpw kv cv M).map (·.1)=(M.map (·.1)).map kv:=by simp [mpw]
  rw [this]
  exact List.Pairwise.map _ (fun a b hab e=>hab (K.inj _ _ e)) h3
end
section
variable {P:Program} {N:Nat} {l:List (Nat×AV)} {H:zaa} {g:Nat} {lim:Option Nat} {g0 i:Nat} {ops:Array Oper} {K:Fr->zaa->Nat->Prop} {r:List Oper} {d:Nat} {ty:TypeId} {pos:String} {after:Array Edge}
 {O:Nat->Prop} {H0:zaa} {L Lp:List (Nat×Blk)} {b:Nat} {κ ν:Type} [DecidableEq κ] {kv:κ->Value} {cv:ν->Value} {ok:κ->Bool}
theorem zj5 {t:TypeId} {q:TypeId×TypeId} {j:Nat} {z:ν} {M:List (κ×ν)} {k:κ} {x ix:AV} (KK:KeysAre P q.1 ok kv) (hH:H j=some (.obj none (zag (mpw kv cv M)))) (hx:x=.mp j) (hy:zrc ix=some (kv k)) (hq:zgP P t=some q) (hz:zfu P q.2=some (cv z)) (hk:mok ok M k=true) :
  zjR P t H x ix=some (j,mpw kv cv M,kv k,cv z):=by
 subst hx
 simp only [zjR,hH,hq,zmg,hy,hz,Option.bind_some]
 rw [if_pos (KK.okW hk)]
theorem zkH {t:TypeId} {q:TypeId×TypeId} {x y:Operand} {j:Nat} {z u:ν} {M:List (κ×ν)} {k:κ} {v':AV} (n:Nat) (KK:KeysAre P q.1 ok kv) (hS:St O H0 L H b) (hd:d<N) (hx:evL N l x=.mp j) (hy:zrc (evL N l y)=some (kv k)) (hn:L[n]?=some (j,.obj none (zag (mpw kv cv M))))
  (hq:zgP P t=some q) (hz:zfu P q.2=some (cv z)) (hu:zgz ok z M k=some u) (hle:Le v' (.v (cv u)))
  (h:zaL P N none g0 ops K (i+1) r (Fr.of ((d,v')::l)) H g):zaL P N none g0 ops K i (⟨some d,.lookup t x y false,ty,pos,after,none⟩::r) (Fr.of l) H g:=by
 unfold zgz at hu
 split at hu
 case isFalse=>cases hu
 case isTrue hk =>
 injection hu with hu
 have hm:=zj5 (z:=z) KK (hS.get hn) hx hy hq hz hk
 refine zj1 (v:=.v (cv u)) (wr:=none) hd rfl rfl ?_ hle h
 simp only [zat,hm,Option.map_some,Bool.false_eq_true,if_false,zpw KK.inj,hu]
theorem zkI {t:TypeId} {q:TypeId×TypeId} {x y:Operand} {j:Nat} {z u:ν} {M:List (κ×ν)} {k:κ} {v':AV} (n:Nat) (KK:KeysAre P q.1 ok kv) (hS:St O H0 L H b) (hd:d<N) (hx:evL N l x=.mp j) (hy:zrc (evL N l y)=some (kv k)) (hn:L[n]?=some (j,.obj none (zag (mpw kv cv M))))
  (hq:zgP P t=some q) (hz:zfu P q.2=some (cv z)) (hu:zgz ok z M k=some u) (hle:Le v' (.v (cv u)))
  (h:zaL P N none g0 ops K (i+1) r (Fr.of ((d,.tup [v',.v (.bool (zbt M k))])::l)) H g):zaL P N none g0 ops K i (⟨some d,.lookup t x y true,ty,pos,after,none⟩::r) (Fr.of l) H g:=by
 unfold zgz at hu
 split at hu
 case isFalse=>cases hu
 case isTrue hk =>
 injection hu with hu
 have hm:=zj5 (z:=z) KK (hS.get hn) hx hy hq hz hk
 refine zj1 (v:=.tup [.v (cv u),.v (.bool (zbt M k))]) (wr:=none) hd rfl rfl ?_ (.tupL (.cons hle (.cons (.refl _) .nil))) h
 have h2:(zex (mpw kv cv M) (kv k)).isSome=zbt M k:=by
  rw [ziH KK.inj]
  cases zbt M k<;>simp
 simp only [zat,hm,Option.map_some,if_true,zpw KK.inj,hu,h2]
theorem zjG {t:TypeId} {q:TypeId×TypeId} {x y z:Operand} {j:Nat} {M M':List (κ×ν)} {k:κ} {v z0:ν} {L':List (Nat×Blk)} (n:Nat) (KK:KeysAre P q.1 ok kv) (hp:lim=none\/zfe ops (Fr.of l) i=true) (hS:St O H0 L H b) (hx:evL N l x=.mp j) (hy:zrc (evL N l y)=some (kv k)) (hv:ztf (evL N l z)=some (cv v)) (hn:L[n]?=some (j,.obj none (zag (mpw kv cv M))))
  (hq:zgP P t=some q) (hz:zfu P q.2=some (cv z0)) (hM:zhp ok M k v=some M') (hL:putAt L n (.obj none (zag (mpw kv cv M')))=L')
  (h:∀H',St O H0 L' H' b->zaL P N lim g0 ops K (i+1) r (Fr.of l) H' g):zaL P N lim g0 ops K i (⟨none,.mapUpdate t x y z,ty,pos,after,none⟩::r) (Fr.of l) H g:=by
 unfold zhp at hM
 split at hM
 case isFalse=>cases hM
 case isTrue hk =>
 injection hM with hM
 subst hM
 have hm:=zj5 (z:=z0) KK (hS.get hn) hx hy hq hz hk
 have he:zat P (g0+i) (.mapUpdate t x y z) (evL N l) H=some (.any,some (j,.obj none (zag (mpw kv cv (zf8 M k v))))):=by
  simp only [zat,hm,hv,Option.bind_some,Option.map_some,zpx KK.inj]
 have hst:=hS.put hn (.obj none (zag (mpw kv cv (zf8 M k v))))
 rw [hL] at hst
 rcases hp with rfl | hp
 ·exact zho (v:=.any) (wr:=some (j,_)) rfl rfl he (h _ hst)
 ·by_cases ho:old lim ops i (.mapUpdate t x y z) (evL N l)=true
  ·exact zho (v:=.any) (wr:=some (j,_)) rfl ho he (h _ hst)
  ·simp only [zaL,zbs,opQ,zbz,zea,ho,if_false]
   exact ⟨hp,_,_,he,h _ hst⟩
theorem zr2 {t:TypeId} {q:TypeId×TypeId} {x y z:Operand} {j:Nat} {M M':List (κ×ν)} {k:κ} {v z0:ν} {L':List (Nat×Blk)} (n:Nat) (KK:KeysAre P q.1 ok kv) (hp:lim=none\/zfe ops (Fr.of l) i=true) (hS:St O H0 L H b) (hx:evL N l x=.mp j) (hy:zrc (evL N l y)=some (kv k)) (hv:ztf (evL N l z)=some (cv v)) (hn:L[n]?=some (j,.obj none (zag (mpw kv cv M))))
  (hq:zgP P t=some q) (hz:zfu P q.2=some (cv z0)) (hM:zhp ok M k v=some M') (hL:putAt L n (.obj none (zag (mpw kv cv M')))=L')
  (h:∀H',St O H0 L' H' b->zaL P N lim g0 ops K (i+1) r (Fr.of l) H' g):zaL P N lim g0 ops K i (⟨none,.insert t x y z,ty,pos,after,none⟩::r) (Fr.of l) H g:=by
 unfold zhp at hM
 split at hM
 case isFalse=>cases hM
 case isTrue hk =>
 injection hM with hM
 subst hM
 have hm:=zj5 (z:=z0) KK (hS.get hn) hx hy hq hz hk
 have he:zat P (g0+i) (.insert t x y z) (evL N l) H=some (.any,some (j,.obj none (zag (mpw kv cv (zf8 M k v))))):=by
  simp only [zat,hm,hv,Option.bind_some,Option.map_some,zpx KK.inj]
 have hst:=hS.put hn (.obj none (zag (mpw kv cv (zf8 M k v))))
 rw [hL] at hst
 rcases hp with rfl | hp
 ·exact zho (v:=.any) (wr:=some (j,_)) rfl rfl he (h _ hst)
 ·by_cases ho:old lim ops i (.insert t x y z) (evL N l)=true
  ·exact zho (v:=.any) (wr:=some (j,_)) rfl ho he (h _ hst)
  ·simp only [zaL,zbs,opQ,zbz,zea,ho,if_false]
   exact ⟨hp,_,_,he,h _ hst⟩
theorem zl0 {t:TypeId} {q:TypeId×TypeId} (hS:St O H0 L H b) (hd:d<N) (hq:zgP P t=some q) (hb:b<=g0+i)
  (h:∀H',St O H0 ((g0+i,.obj none (zag (mpw kv cv ([]:List (κ×ν)))))::L) H' (g0+i+1)->zaL P N lim g0 ops K (i+1) r (Fr.of ((d,.mp (g0+i))::l)) H' g):zaL P N lim g0 ops K i (⟨some d,.makeMap t none,ty,pos,after,none⟩::r) (Fr.of l) H g :=
 za3 (v:=.mp (g0+i)) (wr:=some (g0+i,.obj none (zag []))) hd rfl (by cases lim<;>rfl) (by simp [zat,hq]) (h _ (hS.add _ hb))
end
end Go.AM
