/-
  The abstract machine: maps whose values are of any type.
  Conditions: none; it speaks of any program.
-/
import Derived.Test.YtenogpmlhpcibaaAmLw
set_option linter.all false
namespace Go.AM
open Go Go.RowKit
section
variable {κ ν:Type} [DecidableEq κ] {kv:κ->Value} {cv:ν->Value}
def mpw (kv:κ->Value) (cv:ν->Value) (M:List (κ×ν)):List (Value×Value):=M.map fun p=>(kv p.1,cv p.2)
theorem zhD (hkv:∀a b,kv a=kv b->a=b):∀(M:List (κ×ν)) (k:κ),zd7 (mpw kv cv M) (kv k)=if zb2 M k=true then some (zo6 M k) else none
 | [],k=>rfl
 | p::M,k=>by
  rw [show mpw kv cv (p::M)=(kv p.1,cv p.2)::mpw kv cv M from rfl,zoz]
  by_cases h:p.1=k
  ·subst h
   simp [zb2,zo6]
  ·rw [if_neg (fun e=>h (hkv _ _ e)),zhD hkv M k]
   simp only [zb2,zo6,if_neg h]
   cases zb2 M k<;>simp
theorem zny (z:ν):∀(M:List (κ×ν)) (k:κ),zb2 M k=true->∃p,M[zo6 M k]?=some p/\p.1=k/\p.2=zfP z M k
 | [],k,h=>by simp [zb2] at h
 | p::M,k,h=>by
  by_cases e:p.1=k
  ·exact ⟨p,by simp [zo6,e],e,by simp [zfP,e]⟩
  ·simp only [zb2,if_neg e] at h
   obtain ⟨q,h1,h2,h3⟩:=zny z M k h
   exact ⟨q,by simp [zo6,e,h1],h2,by simp [zfP,e,h3]⟩
theorem zfF (z:ν):∀(M:List (κ×ν)) (k:κ),zb2 M k=false->zfP z M k=z/\zo6 M k=M.length/\∀v,zgb M k v=M++[(k,v)]
 | [],k,_=>⟨rfl,rfl,fun _=>rfl⟩
 | p::M,k,h=>by
  by_cases e:p.1=k
  ·simp [zb2,e] at h
  ·simp only [zb2,if_neg e] at h
   obtain ⟨h1,h2,h3⟩:=zfF z M k h
   exact ⟨by simp [zfP,e,h1],by simp [zo6,e,h2],fun v=>by simp [zgb,e,h3]⟩
theorem znz:∀(M:List (κ×ν)) (k:κ) (v:ν),zb2 M k=true->zgb M k v=M.set (zo6 M k) (k,v)
 | [],k,v,h=>by simp [zb2] at h
 | p::M,k,v,h=>by
  by_cases e:p.1=k
  ·simp [zgb,zo6,e]
  ·simp only [zb2,if_neg e] at h
   simp [zgb,zo6,e,znz M k v h]
theorem znA (hkv:∀a b,kv a=kv b->a=b) (z:ν) (M:List (κ×ν)) (k:κ):zo3 (mpw kv cv M) (kv k) (cv z)=cv (zfP z M k):=by
 unfold zo3
 rw [zhD hkv]
 cases h:zb2 M k with
 | true =>
  obtain ⟨p,h1,h2,h3⟩:=zny z M k h
  simp [mpw,h1,h3]
 | false=>simp [(zfF z M k h).1]
theorem znB (hkv:∀a b,kv a=kv b->a=b) (M:List (κ×ν)) (k:κ) (v:ν):Go.AM.mput (mpw kv cv M) (kv k) (cv v)=mpw kv cv (zgb M k v):=by
 unfold Go.AM.mput
 rw [zhD hkv]
 cases h:zb2 M k with
 | true=>simp [znz M k v h,mpw,List.map_set]
 | false=>simp [(zfF v M k h).2.2 v,mpw]
theorem KeysAre.okW {P:Program} {kt:TypeId} {ok:κ->Bool} (K:KeysAre P kt ok kv) {M:List (κ×ν)} {k:κ} (h:mok ok M k=true):zo9 P kt (mpw kv cv M) (kv k):=by
 simp only [mok,Bool.and_eq_true,decide_eq_true_eq] at h
 obtain ⟨⟨h1,h2⟩,h3⟩:=h
 refine ⟨K.keyed,K.key _ h1,fun p hp=>?_,?_⟩
 ·obtain ⟨q,hq,rfl⟩:=List.mem_map.1 hp
  exact K.key _ (List.all_eq_true.1 h2 q hq)
 ·have:(mpw kv cv M).map (·.1)=(M.map (·.1)).map kv:=by simp [mpw]
  rw [this]
  exact List.Pairwise.map _ (fun a b hab e=>hab (K.inj _ _ e)) h3
end
section
variable {P:Program} {N:Nat} {l:List (Nat×AV)} {H:zaa} {g:Nat} {lim:Option Nat} {g0 i:Nat} {ops:Array Oper} {K:Fr->zaa->Nat->Prop} {r:List Oper} {d:Nat} {ty:TypeId} {pos:String} {after:Array Edge}
 {O:Nat->Prop} {H0:zaa} {L Lp:List (Nat×Blk)} {b:Nat} {κ ν:Type} [DecidableEq κ] {kv:κ->Value} {cv:ν->Value} {ok:κ->Bool}
theorem ziP {t:TypeId} {q:TypeId×TypeId} {j:Nat} {z:ν} {M:List (κ×ν)} {k:κ} {x ix:AV} (KK:KeysAre P q.1 ok kv) (hH:H j=some (.obj none (zar (mpw kv cv M)))) (hx:x=.mp j) (hy:zrJ ix=some (kv k)) (hq:zgU P t=some q) (hz:ze2 P q.2=some (cv z)) (hk:mok ok M k=true) :
  ziZ P t H x ix=some (j,mpw kv cv M,kv k,cv z):=by
 subst hx
 simp only [ziZ,hH,hq,znh,hy,hz,Option.bind_some]
 rw [if_pos (KK.okW hk)]
theorem zjs {t:TypeId} {q:TypeId×TypeId} {x y:Operand} {j:Nat} {z u:ν} {M:List (κ×ν)} {k:κ} {v':AV} (n:Nat) (KK:KeysAre P q.1 ok kv) (hS:St O H0 L H b) (hd:d<N) (hx:evL N l x=.mp j) (hy:zrJ (evL N l y)=some (kv k)) (hn:L[n]?=some (j,.obj none (zar (mpw kv cv M))))
  (hq:zgU P t=some q) (hz:ze2 P q.2=some (cv z)) (hu:zfD ok z M k=some u) (hle:Le v' (.v (cv u)))
  (h:zaL P N none g0 ops K (i+1) r (Fr.of ((d,v')::l)) H g):zaL P N none g0 ops K i (⟨some d,.lookup t x y false,ty,pos,after,none⟩::r) (Fr.of l) H g:=by
 unfold zfD at hu
 split at hu
 case isFalse=>cases hu
 case isTrue hk =>
 injection hu with hu
 have hm:=ziP (z:=z) KK (hS.get hn) hx hy hq hz hk
 refine zkT (v:=.v (cv u)) (wr:=none) hd rfl rfl ?_ hle h
 simp only [zas,hm,Option.map_some,Bool.false_eq_true,if_false,znA KK.inj,hu]
theorem zjt {t:TypeId} {q:TypeId×TypeId} {x y:Operand} {j:Nat} {z u:ν} {M:List (κ×ν)} {k:κ} {v':AV} (n:Nat) (KK:KeysAre P q.1 ok kv) (hS:St O H0 L H b) (hd:d<N) (hx:evL N l x=.mp j) (hy:zrJ (evL N l y)=some (kv k)) (hn:L[n]?=some (j,.obj none (zar (mpw kv cv M))))
  (hq:zgU P t=some q) (hz:ze2 P q.2=some (cv z)) (hu:zfD ok z M k=some u) (hle:Le v' (.v (cv u)))
  (h:zaL P N none g0 ops K (i+1) r (Fr.of ((d,.tup [v',.v (.bool (zb2 M k))])::l)) H g):zaL P N none g0 ops K i (⟨some d,.lookup t x y true,ty,pos,after,none⟩::r) (Fr.of l) H g:=by
 unfold zfD at hu
 split at hu
 case isFalse=>cases hu
 case isTrue hk =>
 injection hu with hu
 have hm:=ziP (z:=z) KK (hS.get hn) hx hy hq hz hk
 refine zkT (v:=.tup [.v (cv u),.v (.bool (zb2 M k))]) (wr:=none) hd rfl rfl ?_ (.tupL (.cons hle (.cons (.refl _) .nil))) h
 have h2:(zd7 (mpw kv cv M) (kv k)).isSome=zb2 M k:=by
  rw [zhD KK.inj]
  cases zb2 M k<;>simp
 simp only [zas,hm,Option.map_some,if_true,znA KK.inj,hu,h2]
theorem zix {t:TypeId} {q:TypeId×TypeId} {x y z:Operand} {j:Nat} {M M':List (κ×ν)} {k:κ} {v z0:ν} {L':List (Nat×Blk)} (n:Nat) (KK:KeysAre P q.1 ok kv) (hp:lim=none\/zeH ops (Fr.of l) i=true) (hS:St O H0 L H b) (hx:evL N l x=.mp j) (hy:zrJ (evL N l y)=some (kv k)) (hv:zqO (evL N l z)=some (cv v)) (hn:L[n]?=some (j,.obj none (zar (mpw kv cv M))))
  (hq:zgU P t=some q) (hz:ze2 P q.2=some (cv z0)) (hM:zjl ok M k v=some M') (hL:putAt L n (.obj none (zar (mpw kv cv M')))=L')
  (h:∀H',St O H0 L' H' b->zaL P N lim g0 ops K (i+1) r (Fr.of l) H' g):zaL P N lim g0 ops K i (⟨none,.mapUpdate t x y z,ty,pos,after,none⟩::r) (Fr.of l) H g:=by
 unfold zjl at hM
 split at hM
 case isFalse=>cases hM
 case isTrue hk =>
 injection hM with hM
 subst hM
 have hm:=ziP (z:=z0) KK (hS.get hn) hx hy hq hz hk
 have he:zas P (g0+i) (.mapUpdate t x y z) (evL N l) H=some (.any,some (j,.obj none (zar (mpw kv cv (zgb M k v))))):=by
  simp only [zas,hm,hv,Option.bind_some,Option.map_some,znB KK.inj]
 have hst:=hS.put hn (.obj none (zar (mpw kv cv (zgb M k v))))
 rw [hL] at hst
 rcases hp with rfl | hp
 ·exact zic (v:=.any) (wr:=some (j,_)) rfl rfl he (h _ hst)
 ·by_cases ho:old lim ops i (.mapUpdate t x y z) (evL N l)=true
  ·exact zic (v:=.any) (wr:=some (j,_)) rfl ho he (h _ hst)
  ·simp only [zaL,zbu,opQ,zbG,zdV,ho,if_false]
   exact ⟨hp,_,_,he,h _ hst⟩
theorem zpU {t:TypeId} {q:TypeId×TypeId} {x y z:Operand} {j:Nat} {M M':List (κ×ν)} {k:κ} {v z0:ν} {L':List (Nat×Blk)} (n:Nat) (KK:KeysAre P q.1 ok kv) (hp:lim=none\/zeH ops (Fr.of l) i=true) (hS:St O H0 L H b) (hx:evL N l x=.mp j) (hy:zrJ (evL N l y)=some (kv k)) (hv:zqO (evL N l z)=some (cv v)) (hn:L[n]?=some (j,.obj none (zar (mpw kv cv M))))
  (hq:zgU P t=some q) (hz:ze2 P q.2=some (cv z0)) (hM:zjl ok M k v=some M') (hL:putAt L n (.obj none (zar (mpw kv cv M')))=L')
  (h:∀H',St O H0 L' H' b->zaL P N lim g0 ops K (i+1) r (Fr.of l) H' g):zaL P N lim g0 ops K i (⟨none,.insert t x y z,ty,pos,after,none⟩::r) (Fr.of l) H g:=by
 unfold zjl at hM
 split at hM
 case isFalse=>cases hM
 case isTrue hk =>
 injection hM with hM
 subst hM
 have hm:=ziP (z:=z0) KK (hS.get hn) hx hy hq hz hk
 have he:zas P (g0+i) (.insert t x y z) (evL N l) H=some (.any,some (j,.obj none (zar (mpw kv cv (zgb M k v))))):=by
  simp only [zas,hm,hv,Option.bind_some,Option.map_some,znB KK.inj]
 have hst:=hS.put hn (.obj none (zar (mpw kv cv (zgb M k v))))
 rw [hL] at hst
 rcases hp with rfl | hp
 ·exact zic (v:=.any) (wr:=some (j,_)) rfl rfl he (h _ hst)
 ·by_cases ho:old lim ops i (.insert t x y z) (evL N l)=true
  ·exact zic (v:=.any) (wr:=some (j,_)) rfl ho he (h _ hst)
  ·simp only [zaL,zbu,opQ,zbG,zdV,ho,if_false]
   exact ⟨hp,_,_,he,h _ hst⟩
theorem zku {t:TypeId} {q:TypeId×TypeId} (hS:St O H0 L H b) (hd:d<N) (hq:zgU P t=some q) (hb:b<=g0+i)
  (h:∀H',St O H0 ((g0+i,.obj none (zar (mpw kv cv ([]:List (κ×ν)))))::L) H' (g0+i+1)->zaL P N lim g0 ops K (i+1) r (Fr.of ((d,.mp (g0+i))::l)) H' g):zaL P N lim g0 ops K i (⟨some d,.makeMap t none,ty,pos,after,none⟩::r) (Fr.of l) H g :=
 zbd (v:=.mp (g0+i)) (wr:=some (g0+i,.obj none (zar []))) hd rfl (by cases lim<;>rfl) (by simp [zas,hq]) (h _ (hS.add _ hb))
end
end Go.AM
