/-
  The abstract machine: what is never written to after it was made is a value.
  Conditions: none; it speaks of any program.
-/
import Derived.Test.YtchhkifidbkjcaaAmY
import Derived.DeepKeys4
set_option linter.all false
namespace Go.AM
open Go Go.RowKit
def pA {α:Type} (f:α->List AV):Option α->AV
 | none=>.v (.pointer none)
 | some x=>.ep (f x)
theorem zqA {α:Type} (f:α->List AV) (x:Option α):cellsOf (pA f x)=some [pA f x]:=by
 cases x<;>rfl
theorem zoJ {α:Type} {f:α->List AV} (h:∀x,∀c,c∈f x->Pure c) (x:Option α):Pure (pA f x):=by
 cases x with
 | none=>exact .v _
 | some x=>exact .ep _ (h x)
theorem zwq {G:Gh} {H:zaa} {w:World} {i:Nat} {cs:List AV} {x:Value} (hi:H i=some (.cells cs)) (hp:Hp G H w) (E:Evo G H w G (H.set i .ice) w) (hv:VR G H w (.ptr i 0) x):VR G (H.set i .ice) w (.ep cs) x:=by
 cases hv with
 | ptr _ _ hcel =>
  obtain ⟨f,hf⟩:=hp.range hi
  refine .ep cs (G.φ i) 0 f (fun hne=>⟨fun x ds hx=>?_,fun x d m hx hb=>?_⟩) (fun j c hj=>?_) (fun j c hj=>?_)
  ·rcases zaa.set_cases hx with ⟨_,hx⟩ | ⟨hne',hx⟩
   ·cases hx
   ·exact fun e=>hne' (hp.inj x i ds cs hx hi e)
  ·rcases zaa.set_cases hx with ⟨_,hx⟩ | ⟨_,hx⟩
   ·cases hx
   ·exact absurd hb (hp.sep i x cs d m hi hx)
  ·exact ⟨(hf j c hj).1,(hf j c hj).2.1⟩
  ·exact VR.evo E (hf j c hj).2.2
section
variable {P:Program} {N:Nat} {Q:Exit->Fr->zaa->Nat->Prop} {l:List (Nat×AV)} {H:zaa} {g:Nat} {b:Code} {O:Nat->Prop} {H0:zaa} {L L':List (Nat×Blk)} {bd:Nat}
theorem zaW (n t:Nat) {i:Nat} {cs:List AV} (hS:St O H0 L H bd) (hn:L[n]?=some (i,.cells cs)) (ht:lk l t=.ptr i 0) (hL:L.eraseIdx n=L')
  (h:∀H',St O H0 L' H' bd->Exit.thenA (fun fr' H' g'=>∃fr0 H0 g0,zjc fr' H' g' fr0 H0 g0/\wpA P N b Q fr0 H0 g0) Q .normal (Fr.of ((t,.ep cs)::l)) H' g) :
  Exit.thenA (fun fr' H' g'=>∃fr0 H0 g0,zjc fr' H' g' fr0 H0 g0/\wpA P N b Q fr0 H0 g0) Q .normal (Fr.of l) H g:=by
 have hi:H i=some (.cells cs):=hS.get hn
 have hOi:=hS.has _ (List.mem_of_getElem? hn)
 have hlt:n<L.length:=(List.getElem?_eq_some_iff.1 hn).1
 have hge:L[n]=(i,.cells cs):=(List.getElem?_eq_some_iff.1 hn).2
 have hsub:(L.eraseIdx n).Sublist L:=List.eraseIdx_sublist _ _
 have hnot:∀p,p∈L.eraseIdx n->p.1≠i:=by
  intro p hp e
  have hnd:=hS.nd
  obtain ⟨q,hq,hne⟩:∃q,L[q]?=some p/\q≠n:=by
   obtain ⟨q,hq⟩:=List.getElem?_of_mem hp
   rw [List.getElem?_eraseIdx] at hq
   split at hq
   ·exact ⟨q,hq,by omega⟩
   ·exact ⟨q+1,hq,by omega⟩
  have h1:(L.map (·.1))[q]?=some i:=by rw [List.getElem?_map,hq,←e];rfl
  have h2:(L.map (·.1))[n]?=some i:=by rw [List.getElem?_map,hn];rfl
  have hql:q<(L.map (·.1)).length:=(List.getElem?_eq_some_iff.1 h1).1
  have hnl:n<(L.map (·.1)).length:=(List.getElem?_eq_some_iff.1 h2).1
  have e1:=(List.getElem?_eq_some_iff.1 h1).2
  have e2:=(List.getElem?_eq_some_iff.1 h2).2
  exact hne ((List.getElem_inj hnd).1 (e1.trans e2.symm))
 obtain ⟨fr0,H1,g1,hd,hw⟩:=h (H.set i .ice) (hL▸⟨fun j hj=>⟨(hS.old j hj).1,(zaa.set_ne _ _ (show j≠i from fun e=>hOi.1 (by rw [←e];exact hj))).trans (hS.old j hj).2⟩,fun p hp=>by
  have:=hS.has p (hsub.subset hp)
  exact ⟨this.1,this.2.1,by rw [zaa.set_ne _ _ (hnot p hp)];exact this.2.2⟩,hS.nd.sublist (hsub.map _),fun j hj=>by
   have h3:i<bd:=hOi.2.1
   rw [zaa.set_ne _ _ (by omega)];exact hS.fr j hj⟩)
 refine ⟨fr0,H1,g1,zjc.trans (fun hf=>?_) hd,hw⟩
 obtain ⟨h1,h2⟩:=zmk hi hf
 refine ⟨h1,fun G w hp=>?_⟩
 obtain ⟨q1,q2⟩:=h2 G w hp
 refine ⟨G,q1,q2,fun t' x hv=>?_⟩
 show VR G _ w (lk _ t') x
 by_cases e:t'=t
 ·subst e
  rw [zkz]
  have hv:VR G H w (lk l t') x:=hv
  rw [ht] at hv
  exact zwq hi hp q2.evo hv
 ·rw [zoA e]
  exact VR.evo q2.evo hv
end
section
variable {P:Program} {N:Nat} {l:List (Nat×AV)} {H:zaa} {g:Nat} {lim:Option Nat} {g0 i:Nat} {ops:Array Oper} {K:Fr->zaa->Nat->Prop} {r:List Oper} {d:Nat} {ty:TypeId} {pos:String} {after:Array Edge}
 {O:Nat->Prop} {H0:zaa} {L Lp:List (Nat×Blk)} {b:Nat}
theorem zh2 {α:Type} {f:α->List AV} {x:Operand} {p:Option α} {u:α} (hd:d<N) (hx:evL N l x=pA f p) (hu:p=some u) (h:zaL P N lim g0 ops K (i+1) r (Fr.of ((d,.ep (f u))::l)) H g):zaL P N lim g0 ops K i (⟨some d,.nilCheck x,ty,pos,after,none⟩::r) (Fr.of l) H g:=by
 subst hu
 exact za3 (wr:=none) hd rfl (by cases lim<;>rfl) (by simp [zat,hx,pA]) h
theorem zrU {t:TypeId} {x y:Operand} {cs:List AV} {m s:Nat} {z:Int} (hd:d<N) (hx:evL N l x=.ep cs) (hy:evL N l y=.v (.int .i64 z)) (hq:zma P t=some (m,s)) (hz:0<=z/\z<m)
  (h:zaL P N lim g0 ops K (i+1) r (Fr.of ((d,.ep (cs.drop (z.toNat*s)))::l)) H g):zaL P N lim g0 ops K i (⟨some d,.indexAddr t x y,ty,pos,after,none⟩::r) (Fr.of l) H g:=by
 refine za3 (v:=.ep (cs.drop (z.toNat*s))) (wr:=none) hd rfl (by cases lim<;>rfl) ?_ h
 have h1:zfM (.v (.int .i64 z))=some z.toNat:=if_pos hz.1
 have h2:z.toNat<m:=by omega
 simp [zat,hx,hy,h1,hq,h2]
end
theorem zeO {α:Type} {xs:List α} {z:Int} {u:α} (h:idx xs z=some u):0<=z/\z<xs.length:=by
 unfold idx at h
 split at h
 ·have:=(List.getElem?_eq_some_iff.1 h).1
  omega
 ·cases h
theorem zrV {P:Program} {t:TypeId} {cs:List AV} {xs:List Int} {z u:Int} (ha:zax P t=none) (hs:scalar P t=true) (hc:cs.take xs.length=xs.map fun x=>.v (.int .i64 x)) (hu:idx xs z=some u):zdZ P t (cs.drop (z.toNat*1)) 0=some (.v (.int .i64 u)):=by
 have hl:=zeO hu
 refine ziA ha hs ?_
 have hu':xs[z.toNat]?=some u:=by
  unfold idx at hu
  rwa [if_pos hl.1] at hu
 have h2:=congrArg (fun l=>l[z.toNat]?) hc
 simp only [List.getElem?_take,List.getElem?_map,hu',Option.map_some] at h2
 rw [if_pos (by omega)] at h2
 rw [List.getElem?_drop,Nat.mul_one,Nat.add_zero]
 exact h2
def vI (x:Int):AV:=.v (.int .i64 x)
theorem zqB {cs:List AV} {o:Nat} {v:AV} (h:o<cs.length):zdL cs o [v]=cs.set o v:=by
 unfold zdL
 apply List.ext_getElem?
 intro q
 by_cases q1:q<o
 ·rw [List.append_assoc,List.getElem?_append_left (by simp;omega),List.getElem?_take,if_pos q1,List.getElem?_set_ne (by omega)]
 ·by_cases q2:q=o
  ·subst q2
   rw [List.append_assoc,List.getElem?_append_right (by simp;omega)]
   simp [Nat.min_eq_left (Nat.le_of_lt h),h]
  ·rw [List.getElem?_append_right (by simp;omega),List.getElem?_drop,List.getElem?_set_ne (by omega)]
   congr 1
   simp
   omega
theorem zls (u:List Int):(List.range u.length).map (fun q=>vI (u.getD q 0))=u.map vI:=by
 apply List.ext_getElem?
 intro q
 by_cases h:q<u.length
 ·simp [h,List.getD,vI]
 ·simp [List.getElem?_eq_none (Nat.le_of_not_lt h)]
  omega
section
variable {P:Program} {N:Nat} {l:List (Nat×AV)} {H:zaa} {g:Nat} {lim:Option Nat} {g0 i:Nat} {ops:Array Oper} {K:Fr->zaa->Nat->Prop} {r:List Oper} {d:Nat} {ty:TypeId} {pos:String} {after:Array Edge}
 {O:Nat->Prop} {H0:zaa} {L Lp:List (Nat×Blk)} {b:Nat}
theorem ze5 {t:TypeId} {x y:Operand} {j off m s:Nat} {z:Int} (hd:d<N) (hx:evL N l x=.ptr j off) (hy:evL N l y=.v (.int .i64 z)) (hq:zma P t=some (m,s)) (hz:0<=z/\z<m)
  (h:zaL P N lim g0 ops K (i+1) r (Fr.of ((d,.ptr j (off+z.toNat*s))::l)) H g):zaL P N lim g0 ops K i (⟨some d,.indexAddr t x y,ty,pos,after,none⟩::r) (Fr.of l) H g:=by
 refine za3 (v:=.ptr j (off+z.toNat*s)) (wr:=none) hd rfl (by cases lim<;>rfl) ?_ h
 have h1:zfM (.v (.int .i64 z))=some z.toNat:=if_pos hz.1
 have h2:z.toNat<m:=by omega
 simp [zat,hx,hy,h1,hq,h2]
theorem zkE {t:TypeId} {x:Operand} {j off:Nat} {cs:List AV} {xs:List Int} {z u:Int} (n:Nat) (hS:St O H0 L H b) (hd:d<N) (hx:evL N l x=.ptr j (off+z.toNat*1)) (hn:L[n]?=some (j,.cells cs)) (ho:Ok lim ops i j)
  (hc:(cs.drop off).take xs.length=xs.map vI) (hu:idx xs z=some u) (ha:zax P t=none) (hs:scalar P t=true)
  (h:zaL P N lim g0 ops K (i+1) r (Fr.of ((d,.v (.int .i64 u))::l)) H g):zaL P N lim g0 ops K i (⟨some d,.load t x,ty,pos,after,none⟩::r) (Fr.of l) H g:=by
 refine zaK (v:=.v (.int .i64 u)) n hS hd hx hn ho ?_ h
 have hl:=zeO hu
 have hu':xs[z.toNat]?=some u:=by
  unfold idx at hu
  rwa [if_pos hl.1] at hu
 have h2:=congrArg (fun l=>l[z.toNat]?) hc
 simp only [List.getElem?_take,List.getElem?_map,hu',Option.map_some,List.getElem?_drop] at h2
 rw [if_pos (by omega)] at h2
 refine ziA ha hs ?_
 rw [Nat.mul_one]
 exact h2
theorem ziF {t:TypeId} {x y:Operand} {j off:Nat} {cs cs':List AV} {xs u:List Int} {z v:Int} {L':List (Nat×Blk)} (n:Nat) (hS:St O H0 L H b) (hx:evL N l x=.ptr j (off+z.toNat*1)) (hn:L[n]?=some (j,.cells cs)) (ho:Ok lim ops i j)
  (hy:evL N l y=.v (.int .i64 v)) (hc:(cs.drop off).take xs.length=xs.map vI) (hu:zqt xs z v=some u) (hv:zar P t=some 1) (hcs:cs.take off++(List.range xs.length).map (fun q=>vI (u.getD q 0))++cs.drop (off+xs.length)=cs') (hL:putAt L n (.cells cs')=L')
  (h:∀H',St O H0 L' H' b->zaL P N lim g0 ops K (i+1) r (Fr.of l) H' g):zaL P N lim g0 ops K i (⟨none,.store t x y,ty,pos,after,none⟩::r) (Fr.of l) H g:=by
 unfold zqt at hu
 split at hu
 case isFalse=>cases hu
 case isTrue hz =>
 injection hu with hu
 have hlen:off+xs.length<=cs.length:=by
  have:=congrArg List.length hc
  simp at this
  omega
 have hul:u.length=xs.length:=by rw [←hu];simp
 refine zaC (v:=.v (.int .i64 v)) (ns:=[.v (.int .i64 v)]) (L':=L') n hS hx hn ho hy rfl hv (by simp;omega) ?_ h
 rw [←hL]
 congr 2
 rw [zqB (by omega),Nat.mul_one,←hcs,←hul,zls,←hu]
 have e:cs=cs.take off++xs.map vI++cs.drop (off+xs.length):=by
  rw [←hc,List.append_assoc,←List.drop_drop,List.take_append_drop,List.take_append_drop]
 have hlo:(cs.take off).length=off:=by rw [List.length_take];omega
 conv=>lhs;rw [e]
 rw [List.append_assoc,List.set_append_right _ _ (by omega),hlo,List.append_assoc]
 congr 1
 rw [show off+z.toNat-off=z.toNat by omega,List.set_append_left _ _ (by simp;omega),List.map_set,List.length_set]
 rfl
end
theorem zmv {α:Type} {xs:List α} {z:Int} {u:α} (h:idx xs z=some u):z.toNat<xs.length:=by
 have:=zeO h
 omega
theorem zpr {P:Program} {t:TypeId} {cs:List AV} {xs:List Int} {z u:Int} (ha:zax P t=none) (hs:scalar P t=true) (hc:cs.take xs.length=xs.map fun x=>.v (.int .i64 x)) (hu:idx xs z=some u):zdZ P t cs (z.toNat*1)=some (.v (.int .i64 u)):=by
 have h:=zrV ha hs hc hu
 unfold zdZ at h ⊢
 rw [ha] at h ⊢
 simp only [hs,if_true,List.getElem?_drop,Nat.add_zero] at h ⊢
 exact h
def mpv {κ:Type} (kv:κ->Value) (M:List (κ×Int)):List (Value×Value):=M.map fun p=>(kv p.1,.int .i64 p.2)
section
variable {κ:Type} [DecidableEq κ] {kv:κ->Value}
theorem zlY (p:Value×Value) (m:List (Value×Value)) (key:Value):zex (p::m) key=open Classical in if p.1=key then some 0 else (zex m key).map (·+1):=by
 unfold zex
 rw [List.findIdx?_cons]
 by_cases h:p.1=key<;>simp [h]
theorem ziG (hkv:∀a b,kv a=kv b->a=b):∀(M:List (κ×Int)) (k:κ),zex (mpv kv M) (kv k)=if zbt M k=true then some (zkB M k) else none
 | [],k=>rfl
 | p::M,k=>by
  rw [show mpv kv (p::M)=(kv p.1,.int .i64 p.2)::mpv kv M from rfl,zlY]
  by_cases h:p.1=k
  ·subst h
   simp [zbt,zkB]
  ·rw [if_neg (fun e=>h (hkv _ _ e)),ziG hkv M k]
   simp only [zbt,zkB,if_neg h]
   cases zbt M k<;>simp
theorem zps:∀(M:List (κ×Int)) (k:κ),zbt M k=true->∃p,M[zkB M k]?=some p/\p.1=k/\p.2=zoC M k
 | [],k,h=>by simp [zbt] at h
 | p::M,k,h=>by
  by_cases e:p.1=k
  ·exact ⟨p,by simp [zkB,e],e,by simp [zoC,e]⟩
  ·simp only [zbt,if_neg e] at h
   obtain ⟨q,h1,h2,h3⟩:=zps M k h
   exact ⟨q,by simp [zkB,e,h1],h2,by simp [zoC,e,h3]⟩
theorem zkF:∀(M:List (κ×Int)) (k:κ),zbt M k=false->zoC M k=0/\zkB M k=M.length/\∀v,zf8 M k v=M++[(k,v)]
 | [],k,_=>⟨rfl,rfl,fun _=>rfl⟩
 | p::M,k,h=>by
  by_cases e:p.1=k
  ·simp [zbt,e] at h
  ·simp only [zbt,if_neg e] at h
   obtain ⟨h1,h2,h3⟩:=zkF M k h
   exact ⟨by simp [zoC,e,h1],by simp [zkB,e,h2],fun v=>by simp [zf8,e,h3]⟩
theorem zpt:∀(M:List (κ×Int)) (k:κ) (v:Int),zbt M k=true->zf8 M k v=M.set (zkB M k) (k,v)
 | [],k,v,h=>by simp [zbt] at h
 | p::M,k,v,h=>by
  by_cases e:p.1=k
  ·simp [zf8,zkB,e]
  ·simp only [zbt,if_neg e] at h
   simp [zf8,zkB,e,zpt M k v h]
theorem ztI (hkv:∀a b,kv a=kv b->a=b) (M:List (κ×Int)) (k:κ):zpb (mpv kv M) (kv k) (.int .i64 0)=.int .i64 (zoC M k):=by
 unfold zpb
 rw [ziG hkv]
 cases h:zbt M k with
 | true =>
  obtain ⟨p,h1,h2,h3⟩:=zps M k h
  simp [mpv,h1,h3]
 | false=>simp [(zkF M k h).1]
theorem ztJ (hkv:∀a b,kv a=kv b->a=b) (M:List (κ×Int)) (k:κ) (v:Int):Go.AM.mput (mpv kv M) (kv k) (.int .i64 v)=mpv kv (zf8 M k v):=by
 unfold Go.AM.mput
 rw [ziG hkv]
 cases h:zbt M k with
 | true=>simp [zpt M k v h,mpv,List.map_set]
 | false=>simp [(zkF M k h).2.2 v,mpv]
structure KeysAre (P:Program) (kt:TypeId) (ok:κ->Bool) (kv:κ->Value):Prop where
 keyed:Go.Maps.Keyed P kt
 inj:∀a b,kv a=kv b->a=b
 key:∀a,ok a=true->∃l,keyOf P kt (kv a)=some l
theorem KeysAre.ok {P:Program} {kt:TypeId} {ok:κ->Bool} (K:KeysAre P kt ok kv) {M:List (κ×Int)} {k:κ} (h:mok ok M k=true):zrd P kt (mpv kv M) (kv k):=by
 simp only [mok,Bool.and_eq_true,decide_eq_true_eq] at h
 obtain ⟨⟨h1,h2⟩,h3⟩:=h
 refine ⟨K.keyed,K.key _ h1,fun p hp=>?_,?_⟩
 ·obtain ⟨q,hq,rfl⟩:=List.mem_map.1 hp
  exact K.key _ (List.all_eq_true.1 h2 q hq)
 ·have:(mpv kv M).map (·.1)=(M.map (·.1)).map kv:=by simp [mpv]
  rw [this]
  exact List.Pairwise.map _ (fun a b hab e=>hab (K.inj _ _ e)) h3
end
section
variable {P:Program} {N:Nat} {l:List (Nat×AV)} {H:zaa} {g:Nat} {lim:Option Nat} {g0 i:Nat} {ops:Array Oper} {K:Fr->zaa->Nat->Prop} {r:List Oper} {d:Nat} {ty:TypeId} {pos:String} {after:Array Edge}
 {O:Nat->Prop} {H0:zaa} {L Lp:List (Nat×Blk)} {b:Nat} {κ:Type} [DecidableEq κ] {kv:κ->Value} {ok:κ->Bool}
theorem zrW {t:TypeId} {q:TypeId×TypeId} {j:Nat} {M:List (κ×Int)} {k:κ} {x ix:AV} (KK:KeysAre P q.1 ok kv) (hH:H j=some (.obj none (zag (mpv kv M)))) (hx:x=.mp j) (hy:zrc ix=some (kv k)) (hq:zgP P t=some q) (hz:zjb P q.2=some .i64) (hk:mok ok M k=true) :
  zjR P t H x ix=some (j,mpv kv M,kv k,.int .i64 0):=by
 subst hx
 simp only [zjR,hH,hq,zmg,hy,zoh hz,Option.bind_some]
 rw [if_pos (KK.ok hk)]
theorem znu {t:TypeId} {q:TypeId×TypeId} (hS:St O H0 L H b) (hd:d<N) (hq:zgP P t=some q) (hb:b<=g0+i)
  (h:∀H',St O H0 ((g0+i,.obj none (zag (mpv kv [])))::L) H' (g0+i+1)->zaL P N lim g0 ops K (i+1) r (Fr.of ((d,.mp (g0+i))::l)) H' g):zaL P N lim g0 ops K i (⟨some d,.makeMap t none,ty,pos,after,none⟩::r) (Fr.of l) H g :=
 za3 (v:=.mp (g0+i)) (wr:=some (g0+i,.obj none (zag []))) hd rfl (by cases lim<;>rfl) (by simp [zat,hq]) (h _ (hS.add _ hb))
theorem zoK {t:TypeId} {q:TypeId×TypeId} {x y z:Operand} {j:Nat} {M M':List (κ×Int)} {k:κ} {v:Int} {L':List (Nat×Blk)} (n:Nat) (KK:KeysAre P q.1 ok kv) (hp:lim=none\/zfe ops (Fr.of l) i=true) (hS:St O H0 L H b) (hx:evL N l x=.mp j) (hy:zrc (evL N l y)=some (kv k)) (hv:evL N l z=.v (.int .i64 v)) (hn:L[n]?=some (j,.obj none (zag (mpv kv M))))
  (hq:zgP P t=some q) (hz:zjb P q.2=some .i64) (hM:zhp ok M k v=some M') (hL:putAt L n (.obj none (zag (mpv kv M')))=L')
  (h:∀H',St O H0 L' H' b->zaL P N lim g0 ops K (i+1) r (Fr.of l) H' g):zaL P N lim g0 ops K i (⟨none,.mapUpdate t x y z,ty,pos,after,none⟩::r) (Fr.of l) H g:=by
 unfold zhp at hM
 split at hM
 case isFalse=>cases hM
 case isTrue hk =>
 injection hM with hM
 subst hM
 have hm:=zrW KK (hS.get hn) hx hy hq hz hk
 have he:zat P (g0+i) (.mapUpdate t x y z) (evL N l) H=some (.any,some (j,.obj none (zag (mpv kv (zf8 M k v))))):=by
  simp only [zat,hm,hv,ztf,Option.bind_some,Option.map_some,ztJ KK.inj]
 have hst:=hS.put hn (.obj none (zag (mpv kv (zf8 M k v))))
 rw [hL] at hst
 rcases hp with rfl | hp
 ·exact zho (v:=.any) (wr:=some (j,_)) rfl rfl he (h _ hst)
 ·by_cases ho:old lim ops i (.mapUpdate t x y z) (evL N l)=true
  ·exact zho (v:=.any) (wr:=some (j,_)) rfl ho he (h _ hst)
  ·simp only [zaL,zbs,opQ,zbz,zea,ho,if_false]
   exact ⟨hp,_,_,he,h _ hst⟩
end
def zlZ (P:Program):Nat->TypeId->Bool
 | 0,_=>false
 | d+1,t=>match P.underlying t with
  | some (.int .i64)=>P.cellsOf t==1
  | some (.array n e)=>P.cellsOf t==n*P.cellsOf e&&zlZ P d e
  | some (.struct fs) => fs.all (·.name != "_") && fs.all fun f => decide (f.offset + P.cellsOf f.type <= P.cellsOf t) && zlZ P d f.type
  | _=>false
theorem zmw {α β:Type} {f:α->Option β}:∀l:List α,(∀x,x∈l->∃y,f x=some y)->∃ys,l.mapM f=some ys
 | [],_=>⟨[],rfl⟩
 | x::l,h=>by
  obtain ⟨y,hy⟩:=h x (by simp)
  obtain ⟨ys,hys⟩:=zmw l fun z hz=>h z (by simp [hz])
  exact ⟨y::ys,by simp [List.mapM_cons,hy,hys]⟩
theorem keyLits_int {P:Program}:∀(d:Nat) (t:TypeId) (cs:List Value),zlZ P d t=true->cs.length=P.cellsOf t->(∀c,c∈cs->∃n,c=.int .i64 n/\(Lit.int .i64 n).wf=true)->∃ls,P.keyLits d t cs=some ls
 | 0,t,cs,h,_,_=>by simp [zlZ] at h
 | d+1,t,cs,h,hl,hc=>by
  unfold zlZ at h
  split at h
  ·rename_i hu
   simp only [beq_iff_eq] at h
   rw [h] at hl
   match cs,hl with
   | [c],_ =>
    obtain ⟨n,rfl,hw⟩:=hc c (by simp)
    exact ⟨[.int .i64 n],by simp [Program.keyLits,hu,hw]⟩
  ·rename_i n e hu
   simp only [Bool.and_eq_true,beq_iff_eq] at h
   obtain ⟨ys,hys⟩:=zmw (f:=fun i=>P.keyLits d e ((cs.drop (i*P.cellsOf e)).take (P.cellsOf e))) (List.range n) fun i hi=>by
    refine keyLits_int d e _ h.2 ?_ fun c hcc=>hc c (List.mem_of_mem_drop (List.mem_of_mem_take hcc))
    rw [List.length_take,List.length_drop,hl,h.1]
    have:(i+1)*P.cellsOf e<=n*P.cellsOf e:=Nat.mul_le_mul_right _ (List.mem_range.1 hi)
    rw [Nat.add_mul] at this
    omega
   refine ⟨ys.flatten,?_⟩
   simp only [Program.keyLits,hu]
   rw [if_pos hl,hys]
   rfl
  ·rename_i fs hu
   simp only [Bool.and_eq_true] at h
   obtain ⟨ys,hys⟩:=zmw (f:=fun f:Field=>P.keyLits d f.type ((cs.drop f.offset).take (P.cellsOf f.type))) fs.toList fun f hf=>by
    have h2:=Array.all_eq_true_iff_forall_mem.1 h.2 f (Array.mem_toList_iff.1 hf)
    simp only [Bool.and_eq_true,decide_eq_true_eq] at h2
    refine keyLits_int d f.type _ h2.2 ?_ fun c hcc=>hc c (List.mem_of_mem_drop (List.mem_of_mem_take hcc))
    rw [List.length_take,List.length_drop,hl]
    omega
   refine ⟨ys.flatten,?_⟩
   simp only [Program.keyLits,hu]
   rw [if_pos ⟨hl,h.1⟩,hys]
   rfl
  ·cases h
theorem zkG {P:Program} {k:TypeId} (hu:(match P.underlying k with | some (.array _ _) | some (.struct _)=>true | _=>false)=true) (hkt:P.keyType k=true) (hi:zlZ P (P.types.size+1) k=true) {ls:List Int} (hl:ls.length=P.cellsOf k) (hw:ls.all okI=true) :
  ∃l,keyOf P k (.agg (ls.map kvI).toArray)=some l:=by
 have hf:(Value.agg (ls.map kvI).toArray).formed P k=true:=by
  unfold Value.formed
  split at hu<;>simp_all
 obtain ⟨x,hx⟩:=keyLits_int (P:=P) (P.types.size+1) k (ls.map kvI) hi (by simpa using hl) fun c hc=>by
  obtain ⟨n,hn,rfl⟩:=List.mem_map.1 hc
  exact ⟨n,rfl,List.all_eq_true.1 hw n hn⟩
 refine ⟨.string (keyBytes x),?_⟩
 unfold keyOf
 split at hu
 ·rename_i h
  rw [h]
  simp only [hkt,hf,Bool.and_self,if_true]
  rw [show (Value.agg (ls.map kvI).toArray).cells.toList=ls.map kvI by simp [Value.cells],hx]
  rfl
 ·rename_i h
  rw [h]
  simp only [hkt,hf,Bool.and_self,if_true]
  rw [show (Value.agg (ls.map kvI).toArray).cells.toList=ls.map kvI by simp [Value.cells],hx]
  rfl
 ·cases hu
theorem zrX {l l':List Int} (h:Value.agg (l.map kvI).toArray=.agg (l'.map kvI).toArray):l=l':=by
 injection h with h
 have h2:l.map kvI=l'.map kvI:=by simpa using h
 exact List.map_inj_right (fun a b h=>by injection h) |>.1 h2
theorem zrY {i:Nat} {k:Option Loop} {p q:Obj->Prop} {L M:BL} (h:zg7 L M):zg7 ((i,.obj k p)::L) ((i,.obj k q)::M):=⟨rfl,rfl,h⟩
theorem zrZ {A M L:BL} {i:Nat} {k:Option Loop} {q:Obj->Prop} (t:∀p,p∈L->OkC A M p):∀p,p∈(i,Blk.obj k q)::L->OkC A M p:=fun p hp=>by
 rcases List.mem_cons.1 hp with rfl | hp
 ·intro ds e;cases e
 ·exact t p hp
theorem zyk {H:zaa} {L:BL} (hH:Has H L) (n:Nat) {i:Nat} {k:Option Loop} {p:Obj->Prop} (h:L[n]?=some (i,.obj k p)):In H (.mp i):=.mp i k p (hH _ (List.mem_of_getElem? h))
section
variable {G:Gh} {H:zaa} {w w':World}
theorem zqC (hp:Hp G H w) {new:Nat} (hn:H new=none) {b:Nat} {k:Option Loop} {p:Obj->Prop} {o:Obj} (hb:∀b,b<w.heap.size->w'.heap[b]?=w.heap[b]?) (hs:w.heap.size<=w'.heap.size)
  (ho:w'.os=w.os) (ht:w'.tape=w.tape) (hu:w'.output=w.output) (hge:w.heap.size<=b) (hg:w'.heap[b]?=some o) (hpo:p o/\fits k o) (hnc:∀vs ty fr,o≠.cells vs ty fr) :
  Hp (G.atφ new b) (H.set new (.obj k p)) w'/\Ext G H w (G.atφ new b) (H.set new (.obj k p)) w':=by
 have hφ:∀i,i≠new->(G.atφ new b).φ i=G.φ i:=fun i h=>by simp [Gh.atφ,h]
 have hφn:(G.atφ new b).φ new=b:=by simp [Gh.atφ]
 have hH:∀i x,H i=some x->(H.set new (.obj k p)) i=some x:=fun i x h=>by rw [zaa.set_ne _ _ (zbk hn h)];exact h
 have E:Evo G H w (G.atφ new b) (H.set new (.obj k p)) w':=by
  refine .of_grow hb (fun i x h=>⟨hH i x h,hφ i (zbk hn h),rfl,rfl⟩) (fun i x h=>?_)
  rcases zaa.set_cases h with ⟨rfl,rfl⟩ | ⟨_,h⟩
  ·exact .inr ⟨fun _ h=>(by cases h),fun _ _ h=>(by cases h)⟩
  ·exact .inl h
 have hcell:∀j a,(H.set new (.obj k p)) j=some (.cells a)->j≠new/\H j=some (.cells a):=fun j a h=>by
  rcases zaa.set_cases h with ⟨_,h2⟩ | ⟨hne,h2⟩
  ·cases h2
  ·exact ⟨hne,h2⟩
 have hrow:∀j d n,(H.set new (.obj k p)) j=some (.row d n)->H j=some (.row d n):=fun j d n h=>by
  rcases zaa.set_cases h with ⟨_,h2⟩ | ⟨_,h2⟩
  ·cases h2
  ·exact h2
 have hlt:∀i k' q,H i=some (.obj k' q)->G.φ i<w.heap.size:=fun i k' q h=>hp.lt (.inr (.inr ⟨i,k',q,h,rfl⟩))
 refine ⟨⟨fun i cs hi=>?_,fun i d n hi=>?_,fun i j cs ds h1 h2 he=>?_,fun i j cs d n h1 h2=>?_,fun i j d m d' n b h1 h2=>hp.own i j d m d' n b (hrow i d m h1) (hrow j d' n h2),fun i k' q hi=>?_,fun i j k1 k2 q q' h1 h2 he=>?_,hp.lo_le hs⟩,⟨E,ho,ht,hu,hs,fun b hlt _=>hb b hlt,fun b' h=>?_⟩⟩
 ·obtain ⟨hne,h⟩:=hcell i cs hi
  obtain ⟨us,tu,hg,hs,h1',hv'⟩:=hp.cells i cs h
  exact ⟨us,tu,by rw [hφ i hne,hb _ (hp.lt (.inl ⟨i,cs,h,rfl⟩))];exact hg,hs,h1',fun j c x hc hx=>(hv' j c x hc hx).evo E⟩
 ·obtain ⟨hz,ys,a1,a2⟩:=hp.rows i d n (hrow i d n hi)
  refine ⟨hz,ys,a1,a2.imp id ?_⟩
  rintro ⟨g,cap,cur,b1,b2,b3,b4⟩
  exact ⟨g,cap,cur,b1,b2,by rw [hb g (Array.getElem?_eq_some_iff.1 b3).1];exact b3,b4⟩
 ·obtain ⟨n1,h1⟩:=hcell i cs h1
  obtain ⟨n2,h2⟩:=hcell j ds h2
  rw [hφ i n1,hφ j n2] at he
  exact hp.inj i j cs ds h1 h2 he
 ·obtain ⟨n1,h1⟩:=hcell i cs h1
  rw [hφ i n1]
  exact hp.sep i j cs d n h1 (hrow j d n h2)
 ·rcases zaa.set_cases hi with ⟨rfl,h⟩ | ⟨hne,h⟩
  ·injection h with h1 h2
   subst h1 h2
   exact ⟨o,by rw [hφn];exact hg,hpo,hnc⟩
  ·obtain ⟨o',h1,h2,h3⟩:=hp.objs i k' q h
   exact ⟨o',by rw [hφ i hne,hb _ (hlt i k' q h)];exact h1,h2,h3⟩
 ·rcases zaa.set_cases h1 with ⟨rfl,_⟩ | ⟨n1,m1⟩<;>rcases zaa.set_cases h2 with ⟨rfl,_⟩ | ⟨n2,m2⟩
  ·rfl
  ·rw [hφn,hφ j n2] at he
   have:=hlt j _ _ m2
   omega
  ·rw [hφn,hφ i n1] at he
   have:=hlt i _ _ m1
   omega
  ·rw [hφ i n1,hφ j n2] at he
   exact hp.oinj i j k1 k2 q q' m1 m2 he
 ·rcases h with ⟨i,cs,hi,rfl⟩ | ⟨i,d,n,hi,h⟩ | ⟨i,k',q,hi,rfl⟩
  ·obtain ⟨n1,h1⟩:=hcell i cs hi
   exact .inl (.inl ⟨i,cs,h1,(hφ i n1).symm⟩)
  ·exact .inl (.inr (.inl ⟨i,d,n,hrow i d n hi,h⟩))
  ·rcases zaa.set_cases hi with ⟨rfl,_⟩ | ⟨n1,h1⟩
   ·exact .inr (by rw [hφn];exact hge)
   ·exact .inl (.inr (.inr ⟨i,k',q,h1,(hφ i n1).symm⟩))
end
def zuA (P:Program) (f:FuncId) (as:List AV) (p:Obj->Prop):Prop :=
 ztg P f/\∀(G:Gh) (w:World) (vs:Array Value),G.lo<=w.heap.size->VRs G E0 w as vs->Calls P f vs w fun en w'=>∃v G' j,en=.returned v /\
  Hp G' (E0.set j (.obj none p)) w'/\Ext G E0 w G' (E0.set j (.obj none p)) w'/\VR G' (E0.set j (.obj none p)) w' (.mp j) v
theorem zuA.le {P:Program} {f:FuncId} {as bs:List AV} {p:Obj->Prop} (h:zuA P f as p) (hl:LeL as bs):zuA P f bs p :=
 ⟨h.1,fun G w vs hlo hv=>h.2 G w vs hlo (hv.le hl)⟩
theorem zuA.new {P:Program} {f:FuncId} {as:List AV} {p:Obj->Prop} (h:zuA P f as p) (hp:∀a,a∈as->Pure a):zh8 P f as (fun new=>.mp new) (some (.obj none p)):=by
 refine ⟨h.1,fun G H g new w vs hf hn hp1 hv=>(h.2 G w vs hp1.lo (zxo hp hv)).mono fun en w' ⟨v,G',j,h1,h2,h3,h4⟩=>?_⟩
 obtain ⟨o,ho,hpo,hnc⟩:=h2.objs j none p (zaa.set_same _ _ _)
 have hge:w.heap.size<=G'.φ j:=by
  rcases h3.im (G'.φ j) (.inr (.inr ⟨j,none,p,zaa.set_same _ _ _,rfl⟩)) with h | h
  ·exact (zqx h).elim
  ·exact h
 obtain ⟨q1,q2⟩:=zqC (w':=w') hp1 hn (fun b hb=>h3.block b hb fun h=>zqx h) h3.size h3.os h3.tape h3.output hge ho hpo hnc
 refine ⟨v,_,h1,q1,q2,?_⟩
 cases h4
 have:(G.atφ new (G'.φ j)).φ new=G'.φ j:=by simp [Gh.atφ]
 have hv:VR (G.atφ new (G'.φ j)) (H.set new (.obj none p)) w' (.mp new) (.map (some ((G.atφ new (G'.φ j)).φ new))):=.mp new none p (zaa.set_same _ _ _)
 rw [this] at hv
 exact hv
theorem zqD {P : Program} {N : Nat} (hm : P.follows .mixedOrders = true) {f : FuncId} {fn : Func} {c : Code} (hf : P.funcs[f]? = some fn) (hb : fn.body = some c) (hname : fn.name ≠ "runtime.NumGoroutine") (hN : fn.ntmps = N)
  {as:List AV} (hlen:as.length<=N) {p:Obj->Prop}
  (h:∀H g,za2 H g->wpA P N c (fun ex fr H1 _=>(ex=.normal\/ex=.ret)/\∃j,zgu P N fr H1 fn.results.toList=some (.mp j)/\H1 j=some (.obj none p)) (zfB as) H g):zuA P f as p:=by
 refine ⟨⟨fn,c,hf,hb,hname⟩,fun G w vs hlo ha=>?_⟩
 refine callsIn_wide.1 (callsIn_of_wp_marks (n:=0) (F:=Fence.wide) hf hb trivial (zgy hm c none 0 G E0 w _ _ _ _ _ _ _ (.inl rfl) (h E0 0 fun _ _=>rfl) (zhQ hN hlen (hp0 G w hlo) ha) (fun _ _=>rfl) fun ex fr H1 g1 a' w' hq S' _=>?_) rfl)
 obtain ⟨he,j,hx,hH1⟩:=hq
 obtain ⟨G1,hp1,hE,⟨Ds,hd1,hd2,hd3⟩,_,hv⟩:=S'
 have hsub:∀i y,(E0.set j (.obj none p)) i=some y->H1 i=some y:=fun i y hi=>by
  rcases zaa.set_cases hi with ⟨rfl,hy⟩ | ⟨_,hy⟩
  ·rw [hH1,hy]
  ·cases hy
 have main:LeavesInM Fence.wide 0 P fn a'.tmps (fun en w'=>∃v G' j,en=.returned v/\Hp G' (E0.set j (.obj none p)) w'/\Ext G E0 w G' (E0.set j (.obj none p)) w'/\VR G' (E0.set j (.obj none p)) w' (.mp j) v) a'.defers .returning w':=by
  rw [hd1]
  refine zdO Ds w' hp1 hE hd2 hd3 fun w2 hp2 hE2 hev=>?_
  obtain ⟨v,hrun,hvr⟩:=zeU (P:=P) (fn:=fn) hp2 (fun t ht=>(hv t ht).evo hev) hx
  obtain ⟨q1,q2⟩:=zfD (hp0 G w hlo) hp2 hE2 hsub (fun i hi=>by rcases hi with ⟨_,hi⟩ | hi<;>cases hi) (fun i d m hi=>by cases hi) (fun i q p hi=>by cases hi) (fun i cs hi=>by
   rcases zaa.set_cases hi with ⟨_,hx⟩ | ⟨_,hx⟩
   ·cases hx
   ·cases hx)
  exact ⟨v,hrun,v,G1,j,rfl,q1,q2,hvr.back hsub (.mp j none p (zaa.set_same _ _ _))⟩
 rcases he with rfl | rfl
 ·exact main
 ·exact main
theorem zva {P:Program} {N:Nat} {fr:Fr} {H H0:zaa} {b:Nat} {O:Nat->Prop} {L:BL} {rs:List ResultVar} {ex:Exit} {p q:Obj->Prop} {j:Nat} (m:Nat) (he:ex=.normal\/ex=.ret) (hx:zgu P N fr H rs=some (.mp j)) (hS:St O H0 L H b) (hn:L[m]?=some (j,.obj none p)) (hpq:p=q) :
  (ex=.normal\/ex=.ret)/\∃j,zgu P N fr H rs=some (.mp j)/\H j=some (.obj none q):=⟨he,j,hx,hpq▸hS.get hn⟩
section
variable {P:Program} {N:Nat} {l:List (Nat×AV)} {H:zaa} {g:Nat} {lim:Option Nat} {g0 i:Nat} {ops:Array Oper} {K:Fr->zaa->Nat->Prop} {r:List Oper} {d:Nat} {ty:TypeId} {pos:String} {after:Array Edge}
 {O:Nat->Prop} {H0:zaa} {L Lp:List (Nat×Blk)} {b:Nat}
theorem ztK {F:Operand} {args:Array Operand} {ts:Array TypeId} {kf:FuncId} {first cap bs:List AV} {p:Obj->Prop} (hS:St O H0 L H b) (hd:d<N) (ht:tgt (evL N l F)=some (kf,first,cap)) (ha:first++args.toList.map (evL N l)++cap=bs)
  (hs:zuA P kf bs p) (hp:∀a,a∈bs->Pure a) (hb:b<=g0+i)
  (h:∀H',St O H0 ((g0+i,.obj none p)::L) H' (g0+i+1)->zaL P N lim g0 ops K (i+1) r (Fr.of ((d,.mp (g0+i))::l)) H' g) :
  zaL P N lim g0 ops K i (⟨some d,.call { callee:=.value F,args:=args,argTypes:=ts },ty,pos,after,none⟩::r) (Fr.of l) H g:=by
 simp only [zaL,zbs,opQ,zbz,zea,ht,ha]
 refine zeR.new1 (hs.new hp) ?_
 rw [zdP hd]
 exact h _ (hS.add _ hb)
end
theorem zj4 {P:Program} {k:FuncId} {first xs cap:List AV} {r:AV} (h:zaR P k (first++xs++cap) r):zlo P (.fn (.func k) first cap) xs [] r []:=zns h
theorem zif {P:Program} {k:FuncId} {first xs cap:List AV} {r:AV} {L L':BL} (h:zhc P k (first++xs++cap) L r L'):zlo P (.fn (.func k) first cap) xs L r L':=h
section
variable {P:Program} {N:Nat} {l:List (Nat×AV)} {H:zaa} {g:Nat} {g0 i:Nat} {ops:Array Oper} {K:Fr->zaa->Nat->Prop} {r:List Oper} {d:Nat} {ty:TypeId} {pos:String} {after:Array Edge}
 {O:Nat->Prop} {H0:zaa} {L:List (Nat×Blk)} {b:Nat}
theorem zvb {t:TypeId} {q:TypeId×TypeId} {x:Operand} {j:Nat} {m:List (Value×Value)} (n:Nat) (hS:St O H0 L H b) (hd:d<N) (hx:evL N l x=.mp j) (hn:L[n]?=some (j,.obj none (zag m))) (hq:zgP P t=some q) (hb:b<=g0+i)
  (h:∀a H',St O H0 ((g0+i,.obj none (zlE a m.length #[]))::L) H' (g0+i+1)->zaL P N none g0 ops K (i+1) r (Fr.of ((d,.it (g0+i) j a)::l)) H' g) :
  zaL P N none g0 ops K i (⟨some d,.range t x,ty,pos,after,none⟩::r) (Fr.of l) H g:=by
 have hold:old none ops i (.range t x) ((Fr.of l).ev N)=true:=rfl
 simp only [zaL,zbs,opQ,zbz]
 rw [if_pos hold]
 simp only [zat,zjS,ztk]
 refine .inl ?_
 refine ⟨j,m,by rw [zea];exact hx,hS.get hn,by rw [hq];rfl,fun a=>?_⟩
 rw [zdP hd]
 exact h a _ (hS.add _ hb)
theorem zwr {x:Operand} {j k a:Nat} {m:List (Value×Value)} {seen:Array Nat} (n k':Nat) (hS:St O H0 L H b) (hd:d<N) (hx:evL N l x=.it j k a) (hn:L[n]?=some (j,.obj none (zlE a m.length seen))) (hk:L[k']?=some (k,.obj none (zag m)))
  (h1:(∀e,e<m.length->seen.contains e=true)->zaL P N none g0 ops K (i+1) r (Fr.of ((d,.tup [.v (.bool false)])::l)) H g)
  (h2:∀e p H',m[e]?=some p->seen.contains e=false->St O H0 (putAt L n (.obj none (zlE a m.length (seen.push e)))) H' b->zaL P N none g0 ops K (i+1) r (Fr.of ((d,.tup [.v (.bool true),.v p.1,.v p.2])::l)) H' g) :
  zaL P N none g0 ops K i (⟨some d,.next x false,ty,pos,after,none⟩::r) (Fr.of l) H g:=by
 have hold:old none ops i (.next x false) ((Fr.of l).ev N)=true:=rfl
 simp only [zaL,zbs,opQ,zbz]
 rw [if_pos hold]
 simp only [zat,zjS,ztk]
 refine .inl ?_
 refine ⟨j,k,a,m,seen,by rw [zea];exact hx,hS.get hk,hS.get hn,fun hall=>?_,fun e p hp hs=>?_⟩
 ·rw [zdP hd]
  exact h1 hall
 ·rw [zdP hd]
  exact h2 e p _ hp hs (hS.put hn _)
theorem zvc {x:Operand} {j k a e:Nat} {m:List (Value×Value)} {seen:Array Nat} {p:Value×Value} (n k':Nat) (hS:St O H0 L H b) (hd:d<N) (hx:evL N l x=.it j k a) (hn:L[n]?=some (j,.obj none (zlE a m.length (seen.push e)))) (hk:L[k']?=some (k,.obj none (zag m))) (hp:m[e]?=some p)
  (h:zaL P N none g0 ops K (i+1) r (Fr.of ((d,.tup [.v p.1,.v p.2])::l)) H g) :
  zaL P N none g0 ops K i (⟨some d,.entry x,ty,pos,after,none⟩::r) (Fr.of l) H g:=by
 have hold:old none ops i (.entry x) ((Fr.of l).ev N)=true:=rfl
 simp only [zaL,zbs,opQ,zbz]
 rw [if_pos hold]
 simp only [zat,zjS,ztk]
 refine .inl ?_
 refine ⟨j,k,a,m,seen,e,p,by rw [zea];exact hx,hS.get hk,hS.get hn,hp,?_⟩
 rw [zdP hd]
 exact h
end
structure SeenOk (c:Nat) (q:List Nat):Prop where
 nodup:q.Nodup
 lt:∀e,e∈q->e<c
theorem SeenOk.nil (c:Nat):SeenOk c []:=⟨List.nodup_nil,fun _ h=>by simp at h⟩
theorem SeenOk.push {c e:Nat} {q:List Nat} (h:SeenOk c q) (he:e<c) (hn:q.toArray.contains e=false):SeenOk c (q++[e]):=by
 have hn':e∉q:=by simpa using hn
 refine ⟨List.nodup_append.2 ⟨h.nodup,by simp,fun a ha b hb=>?_⟩,fun x hx=>?_⟩
 ·simp at hb
  subst hb
  exact fun e'=>hn' (e'▸ha)
 ·rcases List.mem_append.1 hx with hx | hx
  ·exact h.lt x hx
  ·simp at hx
   omega
theorem SeenOk.le {c:Nat} {q:List Nat} (h:SeenOk c q):q.length<=c:=by
 have:=List.Nodup.length_le_of_subset h.nodup (l₂:=List.range c) fun x hx=>List.mem_range.2 (h.lt x hx)
 simpa using this
theorem SeenOk.perm {c:Nat} {q:List Nat} (h:SeenOk c q) (hall:∀e,e<c->q.toArray.contains e=true):q.Perm (List.range c):=by
 refine (List.perm_ext_iff_of_nodup h.nodup List.nodup_range).2 fun e=>⟨fun he=>List.mem_range.2 (h.lt e he),fun he=>?_⟩
 have:=hall e (List.mem_range.1 he)
 simpa using this
theorem zmx {α:Type} (m:List α) (d:α):(List.range m.length).map (fun e=>m.getD e d)=m:=by
 refine List.ext_getElem (by simp) fun i h1 h2=>?_
 simp at h1
 simp [h1]
end Go.AM
