/-
  The abstract machine: maps whose values are of any type.
  Conditions: none; it speaks of any program.
-/
import Derived.Test.YtenogpmlhpcibaaAmLw
set_option linter.all false
namespace Go.AM
open Go Go.RowKit
section
variable {κ ν:Type} [DecidableEq κ] {kv:κ->Value} {cv:ν->Value}
def mpw (kv:κ->Value) (cv:ν->Value) (M:List (κ×ν)):List (Value×Value):=M.map fun p=>(kv p.1,cv p.2)
theorem zhA (hkv:∀a b,kv a=kv b->a=b):∀(M:List (κ×ν)) (k:κ),zd3 (mpw kv cv M) (kv k)=if zbY M k=true then some (zo1 M k) else none
 | [],k=>rfl
 | p::M,k=>by
  rw [show mpw kv cv (p::M)=(kv p.1,cv p.2)::mpw kv cv M from rfl,zot]
  by_cases h:p.1=k
  ·subst h
   simp [zbY,zo1]
  ·rw [if_neg (fun e=>h (hkv _ _ e)),zhA hkv M k]
   simp only [zbY,zo1,if_neg h]
   cases zbY M k<;>simp
theorem znr (z:ν):∀(M:List (κ×ν)) (k:κ),zbY M k=true->∃p,M[zo1 M k]?=some p/\p.1=k/\p.2=zfP z M k
 | [],k,h=>by simp [zbY] at h
 | p::M,k,h=>by
  by_cases e:p.1=k
  ·exact ⟨p,by simp [zo1,e],e,by simp [zfP,e]⟩
  ·simp only [zbY,if_neg e] at h
   obtain ⟨q,h1,h2,h3⟩:=znr z M k h
   exact ⟨q,by simp [zo1,e,h1],h2,by simp [zfP,e,h3]⟩
theorem zfG (z:ν):∀(M:List (κ×ν)) (k:κ),zbY M k=false->zfP z M k=z/\zo1 M k=M.length/\∀v,zf9 M k v=M++[(k,v)]
 | [],k,_=>⟨rfl,rfl,fun _=>rfl⟩
 | p::M,k,h=>by
  by_cases e:p.1=k
  ·simp [zbY,e] at h
  ·simp only [zbY,if_neg e] at h
   obtain ⟨h1,h2,h3⟩:=zfG z M k h
   exact ⟨by simp [zfP,e,h1],by simp [zo1,e,h2],fun v=>by simp [zf9,e,h3]⟩
theorem zns:∀(M:List (κ×ν)) (k:κ) (v:ν),zbY M k=true->zf9 M k v=M.set (zo1 M k) (k,v)
 | [],k,v,h=>by simp [zbY] at h
 | p::M,k,v,h=>by
  by_cases e:p.1=k
  ·simp [zf9,zo1,e]
  ·simp only [zbY,if_neg e] at h
   simp [zf9,zo1,e,zns M k v h]
theorem znt (hkv:∀a b,kv a=kv b->a=b) (z:ν) (M:List (κ×ν)) (k:κ):zoY (mpw kv cv M) (kv k) (cv z)=cv (zfP z M k):=by
 unfold zoY
 rw [zhA hkv]
 cases h:zbY M k with
 | true =>
  obtain ⟨p,h1,h2,h3⟩:=znr z M k h
  simp [mpw,h1,h3]
 | false=>simp [(zfG z M k h).1]
theorem znu (hkv:∀a b,kv a=kv b->a=b) (M:List (κ×ν)) (k:κ) (v:ν):Go.AM.mput (mpw kv cv M) (kv k) (cv v)=mpw kv cv (zf9 M k v):=by
 unfold Go.AM.mput
 rw [zhA hkv]
 cases h:zbY M k with
 | true=>simp [zns M k v h,mpw,List.map_set]
 | false=>simp [(zfG v M k h).2.2 v,mpw]
theorem KeysAre.okW {P:Program} {kt:TypeId} {ok:κ->Bool} (K:KeysAre P kt ok kv) {M:List (κ×ν)} {k:κ} (h:mok ok M k=true):zo4 P kt (mpw kv cv M) (kv k):=by
 simp only [mok,Bool.and_eq_true,decide_eq_true_eq] at h
 obtain ⟨⟨h1,h2⟩,h3⟩:=h
 refine ⟨K.keyed,K.key _ h1,fun p hp=>?_,?_⟩
 ·obtain ⟨q,hq,rfl⟩:=List.mem_map.1 hp
  exact K.key _ (List.all_eq_true.1 h2 q hq)
 ·have:(mpw kv cv M).map (·.1)=(M.map (·.1)).map kv:=by simp [mpw]
  rw [this]
  exact List.Pairwise.map _ (fun a b hab e=>hab (K.inj _ _ e)) h3
end
section
variable {P:Program} {N:Nat} {l:List (Nat×AV)} {H:zaa} {g:Nat} {lim:Option Nat} {g0 i:Nat} {ops:Array Oper} {K:Fr->zaa->Nat->Prop} {r:List Oper} {d:Nat} {ty:TypeId} {pos:String} {after:Array Edge}
 {O:Nat->Prop} {H0:zaa} {L Lp:List (Nat×Blk)} {b:Nat} {κ ν:Type} [DecidableEq κ] {kv:κ->Value} {cv:ν->Value} {ok:κ->Bool}
theorem ziM {t:TypeId} {q:TypeId×TypeId} {j:Nat} {z:ν} {M:List (κ×ν)} {k:κ} {x ix:AV} (KK:KeysAre P q.1 ok kv) (hH:H j=some (.obj none (zas (mpw kv cv M)))) (hx:x=.mp j) (hy:zrG ix=some (kv k)) (hq:zgS P t=some q) (hz:ze0 P q.2=some (cv z)) (hk:mok ok M k=true) :
  ziV P t H x ix=some (j,mpw kv cv M,kv k,cv z):=by
 subst hx
 simp only [ziV,hH,hq,zm9,hy,hz,Option.bind_some]
 rw [if_pos (KK.okW hk)]
theorem zjo {t:TypeId} {q:TypeId×TypeId} {x y:Operand} {j:Nat} {z u:ν} {M:List (κ×ν)} {k:κ} {v':AV} (n:Nat) (KK:KeysAre P q.1 ok kv) (hS:St O H0 L H b) (hd:d<N) (hx:evL N l x=.mp j) (hy:zrG (evL N l y)=some (kv k)) (hn:L[n]?=some (j,.obj none (zas (mpw kv cv M))))
  (hq:zgS P t=some q) (hz:ze0 P q.2=some (cv z)) (hu:zfE ok z M k=some u) (hle:Le v' (.v (cv u)))
  (h:zaK P N none g0 ops K (i+1) r (Fr.of ((d,v')::l)) H g):zaK P N none g0 ops K i (⟨some d,.lookup t x y false,ty,pos,after,none⟩::r) (Fr.of l) H g:=by
 unfold zfE at hu
 split at hu
 case isFalse=>cases hu
 case isTrue hk =>
 injection hu with hu
 have hm:=ziM (z:=z) KK (hS.get hn) hx hy hq hz hk
 refine zkL (v:=.v (cv u)) (wr:=none) hd rfl rfl ?_ hle h
 simp only [zat,hm,Option.map_some,Bool.false_eq_true,if_false,znt KK.inj,hu]
theorem zjp {t:TypeId} {q:TypeId×TypeId} {x y:Operand} {j:Nat} {z u:ν} {M:List (κ×ν)} {k:κ} {v':AV} (n:Nat) (KK:KeysAre P q.1 ok kv) (hS:St O H0 L H b) (hd:d<N) (hx:evL N l x=.mp j) (hy:zrG (evL N l y)=some (kv k)) (hn:L[n]?=some (j,.obj none (zas (mpw kv cv M))))
  (hq:zgS P t=some q) (hz:ze0 P q.2=some (cv z)) (hu:zfE ok z M k=some u) (hle:Le v' (.v (cv u)))
  (h:zaK P N none g0 ops K (i+1) r (Fr.of ((d,.tup [v',.v (.bool (zbY M k))])::l)) H g):zaK P N none g0 ops K i (⟨some d,.lookup t x y true,ty,pos,after,none⟩::r) (Fr.of l) H g:=by
 unfold zfE at hu
 split at hu
 case isFalse=>cases hu
 case isTrue hk =>
 injection hu with hu
 have hm:=ziM (z:=z) KK (hS.get hn) hx hy hq hz hk
 refine zkL (v:=.tup [.v (cv u),.v (.bool (zbY M k))]) (wr:=none) hd rfl rfl ?_ (.tupL (.cons hle (.cons (.refl _) .nil))) h
 have h2:(zd3 (mpw kv cv M) (kv k)).isSome=zbY M k:=by
  rw [zhA KK.inj]
  cases zbY M k<;>simp
 simp only [zat,hm,Option.map_some,if_true,znt KK.inj,hu,h2]
theorem zis {t:TypeId} {q:TypeId×TypeId} {x y z:Operand} {j:Nat} {M M':List (κ×ν)} {k:κ} {v z0:ν} {L':List (Nat×Blk)} (n:Nat) (KK:KeysAre P q.1 ok kv) (hp:lim=none\/zeF ops (Fr.of l) i=true) (hS:St O H0 L H b) (hx:evL N l x=.mp j) (hy:zrG (evL N l y)=some (kv k)) (hv:zqK (evL N l z)=some (cv v)) (hn:L[n]?=some (j,.obj none (zas (mpw kv cv M))))
  (hq:zgS P t=some q) (hz:ze0 P q.2=some (cv z0)) (hM:zjh ok M k v=some M') (hL:putAt L n (.obj none (zas (mpw kv cv M')))=L')
  (h:∀H',St O H0 L' H' b->zaK P N lim g0 ops K (i+1) r (Fr.of l) H' g):zaK P N lim g0 ops K i (⟨none,.mapUpdate t x y z,ty,pos,after,none⟩::r) (Fr.of l) H g:=by
 unfold zjh at hM
 split at hM
 case isFalse=>cases hM
 case isTrue hk =>
 injection hM with hM
 subst hM
 have hm:=ziM (z:=z0) KK (hS.get hn) hx hy hq hz hk
 have he:zat P (g0+i) (.mapUpdate t x y z) (evL N l) H=some (.any,some (j,.obj none (zas (mpw kv cv (zf9 M k v))))):=by
  simp only [zat,hm,hv,Option.bind_some,Option.map_some,znu KK.inj]
 have hst:=hS.put hn (.obj none (zas (mpw kv cv (zf9 M k v))))
 rw [hL] at hst
 rcases hp with rfl | hp
 ·exact zh7 (v:=.any) (wr:=some (j,_)) rfl rfl he (h _ hst)
 ·by_cases ho:old lim ops i (.mapUpdate t x y z) (evL N l)=true
  ·exact zh7 (v:=.any) (wr:=some (j,_)) rfl ho he (h _ hst)
  ·simp only [zaK,zbs,opQ,zbE,zdR,ho,if_false]
   exact ⟨hp,_,_,he,h _ hst⟩
theorem zpQ {t:TypeId} {q:TypeId×TypeId} {x y z:Operand} {j:Nat} {M M':List (κ×ν)} {k:κ} {v z0:ν} {L':List (Nat×Blk)} (n:Nat) (KK:KeysAre P q.1 ok kv) (hp:lim=none\/zeF ops (Fr.of l) i=true) (hS:St O H0 L H b) (hx:evL N l x=.mp j) (hy:zrG (evL N l y)=some (kv k)) (hv:zqK (evL N l z)=some (cv v)) (hn:L[n]?=some (j,.obj none (zas (mpw kv cv M))))
  (hq:zgS P t=some q) (hz:ze0 P q.2=some (cv z0)) (hM:zjh ok M k v=some M') (hL:putAt L n (.obj none (zas (mpw kv cv M')))=L')
  (h:∀H',St O H0 L' H' b->zaK P N lim g0 ops K (i+1) r (Fr.of l) H' g):zaK P N lim g0 ops K i (⟨none,.insert t x y z,ty,pos,after,none⟩::r) (Fr.of l) H g:=by
 unfold zjh at hM
 split at hM
 case isFalse=>cases hM
 case isTrue hk =>
 injection hM with hM
 subst hM
 have hm:=ziM (z:=z0) KK (hS.get hn) hx hy hq hz hk
 have he:zat P (g0+i) (.insert t x y z) (evL N l) H=some (.any,some (j,.obj none (zas (mpw kv cv (zf9 M k v))))):=by
  simp only [zat,hm,hv,Option.bind_some,Option.map_some,znu KK.inj]
 have hst:=hS.put hn (.obj none (zas (mpw kv cv (zf9 M k v))))
 rw [hL] at hst
 rcases hp with rfl | hp
 ·exact zh7 (v:=.any) (wr:=some (j,_)) rfl rfl he (h _ hst)
 ·by_cases ho:old lim ops i (.insert t x y z) (evL N l)=true
  ·exact zh7 (v:=.any) (wr:=some (j,_)) rfl ho he (h _ hst)
  ·simp only [zaK,zbs,opQ,zbE,zdR,ho,if_false]
   exact ⟨hp,_,_,he,h _ hst⟩
theorem zkn {t:TypeId} {q:TypeId×TypeId} (hS:St O H0 L H b) (hd:d<N) (hq:zgS P t=some q) (hb:b<=g0+i)
  (h:∀H',St O H0 ((g0+i,.obj none (zas (mpw kv cv ([]:List (κ×ν)))))::L) H' (g0+i+1)->zaK P N lim g0 ops K (i+1) r (Fr.of ((d,.mp (g0+i))::l)) H' g):zaK P N lim g0 ops K i (⟨some d,.makeMap t none,ty,pos,after,none⟩::r) (Fr.of l) H g :=
 zba (v:=.mp (g0+i)) (wr:=some (g0+i,.obj none (zas []))) hd rfl (by cases lim<;>rfl) (by simp [zat,hq]) (h _ (hS.add _ hb))
end
end Go.AM
