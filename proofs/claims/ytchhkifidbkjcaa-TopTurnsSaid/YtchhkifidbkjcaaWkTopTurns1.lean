/-
  The code returns what the functions say (printed by gen.py).
  Conditions: none.
-/
import Derived.Test.YtchhkifidbkjcaaTy
import Derived.Test.YtchhkifidbkjcaaMd
import Derived.Test.YtchhkifidbkjcaaAmPh
import Derived.Test.YtchhkifidbkjcaaSh
import Derived.Test.YtchhkifidbkjcaaKs
import Derived.Test.YtchhkifidbkjcaaEn
set_option linter.all false
namespace Go.Proofs.Ytchhkifidbkjcaa
open Go Go.AM Go.Law
set_option linter.unusedVariables false
set_option maxRecDepth 4000
set_option maxHeartbeats 4000000
abbrev _root_.Go.AM.AV.i (x:Int):Go.AM.AV:=.v (.int .i64 x)
abbrev _root_.Go.AM.AV.b (x:Bool):Go.AM.AV:=.v (.bool x)
theorem _root_.Go.AM.FLe.k {l l0:List (Nat×AV)} {t:Nat} (r:FLe l l0):FLe l ((t,lk l t)::l0):=.cons (.refl _) r
theorem _root_.Go.AM.LeL.k {a:AV} {ps qs:List AV} (r:LeL ps qs):LeL (a::ps) (a::qs):=.cons (.refl _) r
section
open Go.AM
variable {P:Program} {N:Nat} {l:List (Nat×AV)} {H:zaa} {g:Nat} {ops:Array Oper} {i d g0:Nat} {r:List Oper} {K:Fr->zaa->Nat->Prop} {lim:Option Nat} {ty:TypeId} {pos:String} {after:Array Edge} {Q:Exit->Fr->zaa->Nat->Prop} {a b:Code}
theorem _root_.Go.AM.Om {x:Operand} (v:AV) (h:zaL P N lim g0 ops K (i+1) r (Fr.of ((d,v)::l)) H g) (hd:d<N:=by decide) (hx:evL N l x=v:=by rfl):zaL P N lim g0 ops K i (⟨some d,.move x,ty,pos,after,none⟩::r) (Fr.of l) H g:=zv9 hd hx h
theorem _root_.Go.AM.Oa {x:Operand} (v:AV) (h:zaL P N lim g0 ops K (i+1) r (Fr.of ((d,v)::l)) H g) (hd:d<N:=by decide) (hx:evL N l x=v:=by rfl):zaL P N lim g0 ops K i (⟨some d,.assign x,ty,pos,after,none⟩::r) (Fr.of l) H g:=ztB hd hx h
theorem _root_.Go.AM.Olp {t:TypeId} {x:Operand} {cs:List AV} (v:AV) (h1:zax P t=none) (h2:scalar P t=true) (h:zaL P N lim g0 ops K (i+1) r (Fr.of ((d,v)::l)) H g) (hd:d<N:=by decide) (hx:evL N l x=.ep cs:=by rfl) (hc:cs[0]?=some v:=by rfl):zaL P N lim g0 ops K i (⟨some d,.load t x,ty,pos,after,none⟩::r) (Fr.of l) H g:=zoE hd hx (ziA h1 h2 hc) h
theorem _root_.Go.AM.Olg {t:TypeId} {x:Operand} {cs:List AV} {k:Nat} (v:AV) (ha:zax P t=some k) (h:zaL P N lim g0 ops K (i+1) r (Fr.of ((d,v)::l)) H g) (hd:d<N:=by decide) (hx:evL N l x=.ep cs:=by rfl) (hk:Nat.ble (0+k) cs.length=true:=by rfl) (hc:AV.agg ((cs.drop 0).take k)=v:=by rfl):zaL P N lim g0 ops K i (⟨some d,.load t x,ty,pos,after,none⟩::r) (Fr.of l) H g:=zoE hd hx (zpl ha (Nat.le_of_ble_eq_true hk) rfl) (hc▸h)
theorem _root_.Go.AM.Og {op:Op} {j:Nat} {want:Bool} (h:zaL P N lim g0 ops K (i+1) r (Fr.of ((d,.tup [])::l)) H g) (hd:d<N:=by decide) (hg:gd ops N (Fr.of l) j=some (some (!want)):=by rfl):zaL P N lim g0 ops K i (⟨some d,op,ty,pos,after,some (j,want)⟩::r) (Fr.of l) H g:=zb7 hd hg rfl h
theorem _root_.Go.AM.On {op:Op} {j:Nat} {want e:Bool} (he:e=!want) (h:zaL P N lim g0 ops K (i+1) r (Fr.of ((d,.tup [])::l)) H g) (hd:d<N:=by decide) (hg:gd ops N (Fr.of l) j=some (some e):=by rfl):zaL P N lim g0 ops K i (⟨some d,op,ty,pos,after,some (j,want)⟩::r) (Fr.of l) H g:=zb7 hd hg he h
theorem _root_.Go.AM.Oy {op:Op} {j:Nat} {want e:Bool} {dst:Option Tmp} (he:e=want) (h:zaL P N lim g0 ops K i (⟨dst,op,ty,pos,after,none⟩::r) (Fr.of l) H g) (hg:gd ops N (Fr.of l) j=some (some e):=by rfl):zaL P N lim g0 ops K i (⟨dst,op,ty,pos,after,some (j,want)⟩::r) (Fr.of l) H g:=ztA hg he h
theorem _root_.Go.AM.Oi {bo:BinOp} {t t':TypeId} {x y:Operand} {k:IntKind} {m n:Int} (v:AV) (h:zaL P N lim g0 ops K (i+1) r (Fr.of ((d,v)::l)) H g) (hd:d<N:=by decide) (hx:evL N l x=.v (.int k m):=by rfl) (hy:evL N l y=.v (.int k n):=by rfl) (hv:ziu bo k m n=some v:=by rfl):zaL P N lim g0 ops K i (⟨some d,.binOp bo t x y t',ty,pos,after,none⟩::r) (Fr.of l) H g:=zmp hd hx hy hv h
theorem _root_.Go.AM.Ox {x:Operand} {n:Nat} {vs:List AV} (v:AV) (h:zaL P N lim g0 ops K (i+1) r (Fr.of ((d,v)::l)) H g) (hd:d<N:=by decide) (hx:evL N l x=.tup vs:=by rfl) (hn:vs[n]?=some v:=by rfl):zaL P N lim g0 ops K i (⟨some d,.extract x n,ty,pos,after,none⟩::r) (Fr.of l) H g:=zrH hd hx hn h
theorem _root_.Go.AM.Of {s f:Nat} {x:Operand} (cs:List AV) {k:Nat} (hk:zaH P s f=some k) (h:zaL P N lim g0 ops K (i+1) r (Fr.of ((d,.ep (cs.drop k))::l)) H g) (hd:d<N:=by decide) (hx:evL N l x=.ep cs:=by rfl):zaL P N lim g0 ops K i (⟨some d,.fieldAddr s x f,ty,pos,after,none⟩::r) (Fr.of l) H g:=ztC hd hk hx h
theorem _root_.Go.AM.Pt {c x y:Operand} (v:AV) {e:Bool} (he:e=true) (h:zaL P N lim g0 ops K (i+1) r (Fr.of ((d,v)::l)) H g) (hd:d<N:=by decide) (hc:evL N l c=.v (.bool e):=by rfl) (hx:evL N l x=v:=by rfl):zaL P N lim g0 ops K i (⟨some d,.pick c x y,ty,pos,after,none⟩::r) (Fr.of l) H g:=zbN hd hc he hx h
theorem _root_.Go.AM.Pf {c x y:Operand} (v:AV) {e:Bool} (he:e=false) (h:zaL P N lim g0 ops K (i+1) r (Fr.of ((d,v)::l)) H g) (hd:d<N:=by decide) (hc:evL N l c=.v (.bool e):=by rfl) (hy:evL N l y=v:=by rfl):zaL P N lim g0 ops K i (⟨some d,.pick c x y,ty,pos,after,none⟩::r) (Fr.of l) H g:=zcJ hd hc he hy h
theorem _root_.Go.AM.Ct {o:Operand} {e:Bool} (he:e=true) (h:wpA P N a Q (Fr.of l) H g) (hc:evL N l o=.v (.bool e):=by rfl):wpA P N (.cond o a b) Q (Fr.of l) H g:=zhq hc he h
theorem _root_.Go.AM.Cf {o:Operand} {e:Bool} (he:e=false) (h:wpA P N b Q (Fr.of l) H g) (hc:evL N l o=.v (.bool e):=by rfl):wpA P N (.cond o a b) Q (Fr.of l) H g:=zeV hc he h
theorem _root_.Go.AM.Rg {id:Nat} {os:List Oper} (n:Nat) (h:zaL P N none g os.toArray (Q .normal) 0 os (Fr.of l) H (g+n)) (hn:os.length=n:=by rfl):wpA P N (.region id os.toArray false) Q (Fr.of l) H g:=zty hn h
theorem _root_.Go.AM.Ws (h:wpA P N b Q (Fr.of l) H g):Exit.thenA (fun fr' H' g'=>∃fr0 H0 g0,zjc fr' H' g' fr0 H0 g0/\wpA P N b Q fr0 H0 g0) Q .normal (Fr.of l) H g:=⟨_,H,g,.le (fun _=>.refl _) H g,h⟩
theorem _root_.Go.AM.Sq (h:wpA P N a (Exit.thenA (fun fr' H' g'=>∃fr0 H0 g0,zjc fr' H' g' fr0 H0 g0/\wpA P N b Q fr0 H0 g0) Q) (Fr.of l) H g):wpA P N (.seq a b) Q (Fr.of l) H g:=zv6 h
theorem _root_.Go.AM.Ni (h:K (Fr.of l) H g):zaL P N lim g0 ops K i [] (Fr.of l) H g:=zuX h
theorem _root_.Go.AM.pg {t:TypeId} {cs ds:List AV} {off k:Nat} (h:zax P t=some k) (hl:off+k<=cs.length:=by exact Nat.le_of_ble_eq_true rfl) (hc:(cs.drop off).take k=ds:=by rfl):zdZ P t cs off=some (.agg ds):=zpl h hl hc
theorem _root_.Go.AM.po {t:TypeId} {cs:List AV} {off:Nat} {v:AV} (h:zax P t=none) (hs:scalar P t=true) (hc:cs[off]?=some v:=by rfl):zdZ P t cs off=some v:=ziA h hs hc
theorem _root_.Go.AM.bft (b:Bool):b=true\/b=false:=Bool.eq_false_or_eq_true b
theorem _root_.Go.AM.nlb {a b:Nat} (h:Nat.ble a b=true:=by rfl):a<=b:=Nat.le_of_ble_eq_true h
end
theorem zuD:KeysAre Try.prog 56 zgZ zaq where
 keyed:=Go.Maps.Keyed.of_law (deep_law_laid (show laidOutB Try.prog=true by kernel_rfl) (m:=6) (by omega) (of_decide_eq_true (by kernel_rfl)) (by kernel_rfl) (by kernel_rfl))
 inj:=fun a b h=>by
  obtain ⟨⟨a1,a2,a3,a4⟩,a5,a6⟩:=a
  obtain ⟨⟨b1,b2,b3,b4⟩,b5,b6⟩:=b
  have h:=zrX h
  simp only [List.cons.injEq,and_true] at h
  obtain ⟨rfl,rfl,rfl,rfl,rfl,rfl⟩:=h
  rfl
 key:=fun x h=>zkG (by kernel_rfl) (by kernel_rfl) (by kernel_rfl) (show List.length _=_ by kernel_rfl) h
theorem zk5:KeysAre Try.prog 125 zbF zad where
 keyed:=Go.Maps.Keyed.of_law (deep_law_laid (show laidOutB Try.prog=true by kernel_rfl) (m:=6) (by omega) (of_decide_eq_true (by kernel_rfl)) (by kernel_rfl) (by kernel_rfl))
 inj:=fun a b h=>by
  obtain ⟨⟨a1,a2⟩,⟨a3,a4,a5,a6⟩,a7⟩:=a
  obtain ⟨⟨b1,b2⟩,⟨b3,b4,b5,b6⟩,b7⟩:=b
  have h:=zrX h
  simp only [List.cons.injEq,and_true] at h
  obtain ⟨rfl,rfl,rfl,rfl,rfl,rfl,rfl⟩:=h
  rfl
 key:=fun x h=>zkG (by kernel_rfl) (by kernel_rfl) (by kernel_rfl) (show List.length _=_ by kernel_rfl) h
theorem zyK:Try.prog.underlying 3=some (.int .i64):=by kernel_rfl
theorem zvu:KeysAre Try.prog 3 okI kvI:=⟨Go.Maps.int_keyed zyK,fun a b h=>by injection h,fun a h=>⟨_,Go.Maps.keyOf_int_mk zyK h⟩⟩
theorem zjI {a0:Int} {a1:Int} {r:Bool} (hM:zji a0 a1=some r):zaR Try.prog 16 [.i a0,.i a1] (.b r):=by
 refine zaz mixed Try.func16 rfl (by decide) Try.ntmps16 (by simp) ?pure fun H0 g hf=>?_
 case pure=>exact .v _
 rw [zah]
 change wpA _ _ _ _ (Fr.of [(0,.i a0),(1,.i a1)]) H0 g
 have hS:=St.start hf
 refine Sq ?_
 refine Rg 1 ?_
 refine Oa (.b false) ?_
 refine Ni ?_
 refine Ws ?_
 refine Sq ?_
 refine Rg 4 ?_
 refine Om (.i a0) ?_
 refine Om (.i a1) ?_
 refine Oi (.b (decide (a0>a1))) ?_
 refine Oa (.b (decide (a0>a1))) ?_
 refine Ni ?_
 refine Ws ?_
 refine zaS ?_
 refine zbe (x:=.b (decide (a0>a1))) (f:=fun r=>.b r) (.inr rfl) ?_ (.refl _) (Option.some.inj hM) hS
 exact (zaw (zae (x:=.b (decide (a0>a1))) rfl))
theorem zlv {b:Bool} {x y:Int} {r:Bool} (hM:zhv b x y=some r):zaR Try.prog (cond b 16 16) [.i x,.i y] (.b r):=by
 cases b with
 | true=>exact zjI hM
 | false=>exact zjI hM
abbrev fnB (b:Bool):AV:=.fn (.func (cond b 16 16)) [] []
abbrev zbL (x:Go.Law.Wheel_) (b:Bool) (i:Nat):List Go.AM.AV:=[.i x.Wheel.Round,.sl .no 1 (x.Wheel.Notches.map cI),.sl .no 1 (x.Wheel.Coins.map cI),fnB b,.mp i]
theorem zpJ (b:Bool):Go.AM.Pure (fnB b):=.fn _ _ _ (fun c h=>by simp at h) (fun c h=>by simp at h)
theorem zgr {a0:Int} {a1:Int} {a2:Int} {r:Bool} (hM:zet a0 a1 a2=some r):zaR Try.prog 12 [.i a0,.i a1,.i a2] (.b r):=by
 refine zaz mixed Try.func12 rfl (by decide) Try.ntmps12 (by simp) ?pure fun H0 g hf=>?_
 case pure=>exact .v _
 rw [zah]
 change wpA _ _ _ _ (Fr.of [(0,.i a0),(1,.i a1),(2,.i a2)]) H0 g
 have hS:=St.start hf
 refine Sq ?_
 refine Rg 1 ?_
 refine Oa (.b false) ?_
 refine Ni ?_
 refine Ws ?_
 refine zaY (J:=Bool) (fun j=>[(6,.b j)]) (fun j H' g'=>St (·<g) H0 [] H' g'/\zdQ j=some r) ?_ ?_
 ·rintro v1 H g1 ⟨hS,hM⟩
  change wpA _ _ _ _ (Fr.of [(6,.b v1)]) _ _
  replace hS:St (·<g) H0 [] H g1:=hS
  replace hM:zdQ v1=some r:=hM
  refine zaS ?_
  refine zbe (x:=.b v1) (f:=fun r=>.b r) (.inr rfl) ?_ (.refl _) (Option.some.inj hM) hS
  exact (zaw (zae (x:=.b v1) rfl))
 ·refine Rg 9 ?_
  refine Om (.i a0) ?_
  refine Om (.i a1) ?_
  refine Oi (.b (decide (a0≥a1))) ?_
  refine Om (.b (decide (a0≥a1))) ?_
  rcases bft (decide (a0≥a1)) with hb2 | hb2
  ·replace hM:=ifT hM hb2
   refine Oy (want:=true) hb2 ?_
   refine Om (.i a0) ?_
   refine Oy (want:=true) hb2 ?_
   refine Om (.i a2) ?_
   refine Oy (want:=true) hb2 ?_
   refine Oi (.b (decide (a0<=a2))) ?_
   refine Pt (.b (decide (a0<=a2))) hb2 ?_
   refine Oa (.b (decide (a0<=a2))) ?_
   refine Ni ?_
   exact zai (decide (a0<=a2)) (.k .nil) ⟨(hS.keep [] rfl).up (by omega),hM⟩
  ·replace hM:=ifF hM hb2
   refine On (want:=true) hb2 ?_
   refine On (want:=true) hb2 ?_
   refine On (want:=true) hb2 ?_
   refine Pf (.b false) hb2 ?_
   refine Oa (.b false) ?_
   refine Ni ?_
   exact zai false (.k .nil) ⟨(hS.keep [] rfl).up (by omega),hM⟩
theorem zh4 {n:Nat} {a0:List Int} {a1:Int} {a2:Int} {r:Bool} (hM:zgd n a0 a1 a2=some r):zaR Try.prog 13 [.sl .no 1 (a0.map cI),.i a1,.i a2] (.b r):=by
 refine zaz mixed Try.func13 rfl (by decide) Try.ntmps13 (by simp) ?pure fun H0 g hf=>?_
 case pure=>exact .v _
 rw [zah]
 change wpA _ _ _ _ (Fr.of [(0,.sl .no 1 (a0.map cI)),(1,.i a1),(2,.i a2)]) H0 g
 have hS:=St.start hf
 refine Sq ?_
 refine Rg 1 ?_
 refine Oa (.b false) ?_
 refine Ni ?_
 refine Ws ?_
 refine zaY (J:=Unit) (fun j=>[]) (fun j H' g'=>St (·<g) H0 [] H' g'/\zeB=some r) ?_ ?_
 ·rintro _ H g1 ⟨hS,hM⟩
  change wpA _ _ _ _ (Fr.of []) _ _
  replace hS:St (·<g) H0 [] H g1:=hS
  replace hM:zeB=some r:=hM
  refine Sq ?_
  refine Rg 1 ?_
  refine Oa (.b true) ?_
  refine Ni ?_
  refine Ws ?_
  refine zaS ?_
  refine zbe (x:=.b true) (f:=fun r=>.b r) (.inr rfl) ?_ (.refl _) (Option.some.inj hM) hS
  exact (zaw (zae (x:=.b true) rfl))
 ·refine Sq ?_
  refine Rg 1 ?_
  refine Oa (.i 0) ?_
  refine Ni ?_
  refine Ws ?_
  refine zaB ?_
  refine zco (V:=Int) (fun v=>[(0,.sl .no 1 (a0.map cI)),(1,.i a1),(2,.i a2),(7,.i v)]) (fun v m2 H' g'=>St (·<g) H0 [] H' g'/\zbO a0 a1 a2 m2 v=some r) (n:=n) 0 (.k (.k (.k (.k .nil)))) ⟨(hS.keep [] rfl).up (by omega),hM⟩ ?_
  rintro v1 m2 H g2 ⟨hS,hM⟩
  obtain _ | m2:=m2
  ·exact nomatch (show none=some _ from hM)
  change wpA _ _ _ _ (Fr.of [(0,.sl .no 1 (a0.map cI)),(1,.i a1),(2,.i a2),(7,.i v1)]) _ _
  replace hS:St (·<g) H0 [] H g2:=hS
  replace hM:zd3 a0 a1 a2 (zbO a0 a1 a2 m2) v1=some r:=hM
  refine Sq ?_
  refine Sq ?_
  refine Rg 4 ?_
  refine Om (.i v1) ?_
  refine Om (.sl .no 1 (a0.map cI)) ?_
  refine zb9 (n:=a0.length) (by decide) rfl (List.length_map _) zaQ ?_
  refine Oi (.b (decide (v1<(a0.length:Int)))) ?_
  refine Ni ?_
  refine Ws ?_
  rcases bft (decide (v1<(a0.length:Int))) with hb2 | hb2
  ·replace hM:=ifT hM hb2
   refine Ct hb2 ?_
   refine zay ?_
   refine Ws ?_
   refine Sq ?_
   refine zaB ?_
   refine zaY (J:=Bool) (fun j=>[(0,.sl .no 1 (a0.map cI)),(1,.i a1),(2,.i a2),(7,.i v1),(37,.b j)]) (fun j H' g'=>St (·<g) H0 [] H' g'/\zcj (zbO a0 a1 a2 m2) v1 j=some r) ?_ ?_
   ·rintro v3 H g3 ⟨hS,hM⟩
    change wpA _ _ _ _ (Fr.of [(0,.sl .no 1 (a0.map cI)),(1,.i a1),(2,.i a2),(7,.i v1),(37,.b v3)]) _ _
    replace hS:St (·<g) H0 [] H g3:=hS
    replace hM:zcj (zbO a0 a1 a2 m2) v1 v3=some r:=hM
    rcases bft v3 with hb4 | hb4
    ·replace hM:=ifT hM hb4
     refine Ct hb4 ?_
     refine Sq ?_
     refine Rg 1 ?_
     refine Oa (.b false) ?_
     refine Ni ?_
     refine Ws ?_
     refine zaS ?_
     refine zaV ?_
     refine zao ?_
     refine zbA ?_
     refine zaV ?_
     refine zcn ?_
     refine zbe (x:=.b false) (f:=fun r=>.b r) (.inr rfl) ?_ (.refl _) (Option.some.inj hM) hS
     exact (zaw (zae (x:=.b false) rfl))
    ·replace hM:=ifF hM hb4
     refine Cf hb4 ?_
     refine zay ?_
     refine zas ?_
     refine Ws ?_
     refine Rg 3 ?_
     refine Om (.i v1) ?_
     refine Oi (.i (w64 (v1+1))) ?_
     refine Oa (.i (w64 (v1+1))) ?_
     refine Ni ?_
     exact zbo (w64 (v1+1)) (Nat.lt_succ_self _) (.k (.k (.k (.k .nil)))) ⟨(hS.keep [] rfl).up (by omega),hM⟩
   ·have hS0:=hS
    refine zc4 (n:=24) rfl (by kernel_rfl) ?_
    refine Om (.sl .no 1 (a0.map cI)) ?_
    refine Om (.i v1) ?_
    obtain ⟨x5,hx5,hM⟩:=zaj hM
    refine za8 (xs:=a0) (f:=cI) (z:=v1) (u:=x5) (by decide) rfl rfl zaP hx5 ?_
    refine Olp (.i x5) zaf zal ?_
    refine Om (.i a1) ?_
    refine Om (.i a2) ?_
    obtain ⟨r6,hr6,hM⟩:=zaj hM
    refine zaO (bs:=[.i x5,.i a1,.i a2]) (by decide) rfl rfl ((zgr hr6).le (.k (.k (.k .nil)))) ?_
    refine zc5 (e:=r6) (by decide) rfl ?_
    refine Om (.b (!r6)) ?_
    rcases bft (!r6) with hb7 | hb7
    ·replace hM:=ifT hM hb7
     refine On (want:=false) hb7 ?_
     refine On (want:=false) hb7 ?_
     refine On (want:=false) hb7 ?_
     refine zam (j:=11) (by decide) rfl ?_
     refine zam (j:=11) (by decide) rfl ?_
     refine zam (j:=11) (by decide) rfl ?_
     refine zam (j:=11) (by decide) rfl ?_
     refine zam (j:=11) (by decide) rfl ?_
     refine zam (j:=11) (by decide) rfl ?_
     refine zam (j:=11) (by decide) rfl ?_
     refine zam (j:=11) (by decide) rfl ?_
     refine zam (j:=11) (by decide) rfl ?_
     refine zam (j:=11) (by decide) rfl ?_
     refine On (want:=false) hb7 ?_
     refine Pt (.b true) hb7 ?_
     refine Ni ?_
     exact zai true (.k (.k (.k (.k (.k .nil))))) ⟨(hS.keep [] rfl).up (by omega),hM⟩
    ·replace hM:=ifF hM hb7
     refine Oy (want:=false) hb7 ?_
     refine Om (.i v1) ?_
     refine Oy (want:=false) hb7 ?_
     refine Oi (.b (decide (v1>0))) ?_
     refine Oy (want:=false) hb7 ?_
     refine Om (.b (decide (v1>0))) ?_
     rcases bft (decide (v1>0)) with hb8 | hb8
     ·replace hM:=ifT hM hb8
      refine Oy (want:=true) hb8 ?_
      refine Om (.sl .no 1 (a0.map cI)) ?_
      refine Oy (want:=true) hb8 ?_
      refine Om (.i v1) ?_
      refine Oy (want:=true) hb8 ?_
      obtain ⟨x9,hx9,hM⟩:=zaj hM
      refine za8 (xs:=a0) (f:=cI) (z:=v1) (u:=x9) (by decide) rfl rfl zaP hx9 ?_
      refine Oy (want:=true) hb8 ?_
      refine Olp (.i x9) zaf zal ?_
      refine Oy (want:=true) hb8 ?_
      refine Om (.sl .no 1 (a0.map cI)) ?_
      refine Oy (want:=true) hb8 ?_
      refine Om (.i v1) ?_
      refine Oy (want:=true) hb8 ?_
      refine Oi (.i (w64 (v1-1))) ?_
      refine Oy (want:=true) hb8 ?_
      obtain ⟨x10,hx10,hM⟩:=zaj hM
      refine za8 (xs:=a0) (f:=cI) (z:=(w64 (v1-1))) (u:=x10) (by decide) rfl rfl zaP hx10 ?_
      refine Oy (want:=true) hb8 ?_
      refine Olp (.i x10) zaf zal ?_
      refine Oy (want:=true) hb8 ?_
      refine Oi (.b (decide (x9<=x10))) ?_
      refine Oy (want:=false) hb7 ?_
      refine Pt (.b (decide (x9<=x10))) hb8 ?_
      refine Pf (.b (decide (x9<=x10))) hb7 ?_
      refine Ni ?_
      exact zai (decide (x9<=x10)) (.k (.k (.k (.k (.k .nil))))) ⟨(hS.keep [] rfl).up (by omega),hM⟩
     ·replace hM:=ifF hM hb8
      refine On (want:=true) hb8 ?_
      refine On (want:=true) hb8 ?_
      refine On (want:=true) hb8 ?_
      refine On (want:=true) hb8 ?_
      refine On (want:=true) hb8 ?_
      refine On (want:=true) hb8 ?_
      refine On (want:=true) hb8 ?_
      refine On (want:=true) hb8 ?_
      refine On (want:=true) hb8 ?_
      refine On (want:=true) hb8 ?_
      refine Oy (want:=false) hb7 ?_
      refine Pf (.b false) hb8 ?_
      refine Pf (.b false) hb7 ?_
      refine Ni ?_
      exact zai false (.k (.k (.k (.k (.k .nil))))) ⟨(hS.keep [] rfl).up (by omega),hM⟩
  ·replace hM:=ifF hM hb2
   refine Cf hb2 ?_
   refine zb1 ?_
   refine zav ?_
   refine zau ?_
   refine zaD ?_
   exact zai () .nil ⟨(hS.keep [] rfl).up (by omega),hM⟩
theorem zmS {n:Nat} {a0:Wheel} {r:Int} (hM:zg0 n a0=some r):zaR Try.prog 4 [.agg (Wheel.cells a0)] (.i r):=by
 refine zaz mixed Try.func4 rfl (by decide) Try.ntmps4 (by simp) ?pure fun H0 g hf=>?_
 case pure=>exact .v _
 rw [zah]
 change wpA _ _ _ _ (Fr.of [(0,.agg (Wheel.cells a0))]) H0 g
 have hS:=St.start hf
 refine Sq ?_
 refine Rg 2 ?_
 refine zcg (v:=.agg (Wheel.cells a0)) (cs:=(Wheel.cells a0)) hS (by decide) rfl rfl (by omega) fun H hS=>?_
 refine Oa (.i 0) ?_
 refine Ni ?_
 refine zaW (L':=[]) 0 1 hS rfl rfl rfl fun H hS=>?_
 refine Ws ?_
 refine Sq ?_
 refine zaY (J:=Bool) (fun j=>[(32,.b j)]) (fun j H' g'=>St (·<g) H0 [] H' g'/\zcz j=some r) ?_ ?_
 ·rintro v1 H g1 ⟨hS,hM⟩
  change wpA _ _ _ _ (Fr.of [(32,.b v1)]) _ _
  replace hS:St (·<g) H0 [] H g1:=hS
  replace hM:zcz v1=some r:=hM
  rcases bft v1 with hb2 | hb2
  ·replace hM:=ifT hM hb2
   refine Ct hb2 ?_
   refine Sq ?_
   refine Rg 1 ?_
   refine Oa (.i 10) ?_
   refine Ni ?_
   refine Ws ?_
   refine zaS ?_
   refine zao ?_
   refine zbe (x:=.i 10) (f:=fun r=>.i r) (.inr rfl) ?_ (.refl _) (Option.some.inj hM) hS
   exact (zaw (zae (x:=.i 10) rfl))
  ·replace hM:=ifF hM hb2
   refine Cf hb2 ?_
   refine zay ?_
   refine Ws ?_
   refine Sq ?_
   refine Rg 1 ?_
   refine Oa (.i 0) ?_
   refine Ni ?_
   refine Ws ?_
   refine zaS ?_
   refine zbe (x:=.i 0) (f:=fun r=>.i r) (.inr rfl) ?_ (.refl _) (Option.some.inj hM) hS
   exact (zaw (zae (x:=.i 0) rfl))
 ·refine Rg 30 ?_
  refine Of ((Wheel.cells a0)) zef ?_
  refine Olp (.i a0.Round) zaf zal ?_
  obtain ⟨r3,hr3,hM⟩:=zaj hM
  refine zaO (bs:=[.i a0.Round,.i 1,.i 200]) (by decide) rfl rfl ((zgr hr3).le (.k (.k (.k .nil)))) ?_
  refine zc5 (e:=r3) (by decide) rfl ?_
  refine Om (.b (!r3)) ?_
  rcases bft (!r3) with hb4 | hb4
  ·replace hM:=ifT hM hb4
   refine On (want:=false) hb4 ?_
   refine On (want:=false) hb4 ?_
   refine On (want:=false) hb4 ?_
   refine On (want:=false) hb4 ?_
   refine Pt (.b true) hb4 ?_
   refine Om (.b true) ?_
   refine Og ?_
   refine Og ?_
   refine Og ?_
   refine Og ?_
   refine Og ?_
   refine Og ?_
   refine zbN (v:=.b true) (e:=true) (by decide) rfl rfl rfl ?_
   refine Om (.b true) ?_
   refine Og ?_
   refine Og ?_
   refine Og ?_
   refine Og ?_
   refine zbN (v:=.b true) (e:=true) (by decide) rfl rfl rfl ?_
   refine Om (.b true) ?_
   refine Og ?_
   refine Og ?_
   refine Og ?_
   refine Og ?_
   refine zbN (v:=.b true) (e:=true) (by decide) rfl rfl rfl ?_
   refine Ni ?_
   exact zai true (.k .nil) ⟨(hS.keep [] rfl).up (by omega),hM⟩
  ·replace hM:=ifF hM hb4
   refine Oy (want:=false) hb4 ?_
   refine Of ((Wheel.cells a0)) zhz ?_
   refine Oy (want:=false) hb4 ?_
   refine Olp (.sl .no 1 (a0.Notches.map cI)) zaI zaU ?_
   refine Oy (want:=false) hb4 ?_
   refine zb9 (n:=a0.Notches.length) (by decide) rfl (List.length_map _) zaQ ?_
   refine Oy (want:=false) hb4 ?_
   refine Oi (.b (decide ((a0.Notches.length:Int)>12))) ?_
   refine Pf (.b (decide ((a0.Notches.length:Int)>12))) hb4 ?_
   refine Om (.b (decide ((a0.Notches.length:Int)>12))) ?_
   rcases bft (decide ((a0.Notches.length:Int)>12)) with hb5 | hb5
   ·replace hM:=ifT hM hb5
    refine On (want:=false) hb5 ?_
    refine On (want:=false) hb5 ?_
    refine On (want:=false) hb5 ?_
    refine On (want:=false) hb5 ?_
    refine On (want:=false) hb5 ?_
    refine On (want:=false) hb5 ?_
    refine Pt (.b true) hb5 ?_
    refine Om (.b true) ?_
    refine Og ?_
    refine Og ?_
    refine Og ?_
    refine Og ?_
    refine zbN (v:=.b true) (e:=true) (by decide) rfl rfl rfl ?_
    refine Om (.b true) ?_
    refine Og ?_
    refine Og ?_
    refine Og ?_
    refine Og ?_
    refine zbN (v:=.b true) (e:=true) (by decide) rfl rfl rfl ?_
    refine Ni ?_
    exact zai true (.k .nil) ⟨(hS.keep [] rfl).up (by omega),hM⟩
   ·replace hM:=ifF hM hb5
    refine Oy (want:=false) hb5 ?_
    refine Of ((Wheel.cells a0)) zhz ?_
    refine Oy (want:=false) hb5 ?_
    refine Olp (.sl .no 1 (a0.Notches.map cI)) zaI zaU ?_
    refine Oy (want:=false) hb5 ?_
    refine Of ((Wheel.cells a0)) zef ?_
    refine Oy (want:=false) hb5 ?_
    refine Olp (.i a0.Round) zaf zal ?_
    refine Oy (want:=false) hb5 ?_
    obtain ⟨r6,hr6,hM⟩:=zaj hM
    refine zaO (bs:=[.sl .no 1 (a0.Notches.map cI),.i 1,.i a0.Round]) (by decide) rfl rfl ((zh4 hr6).le (.k (.k (.k .nil)))) ?_
    refine Oy (want:=false) hb5 ?_
    refine zc5 (e:=r6) (by decide) rfl ?_
    refine Pf (.b (!r6)) hb5 ?_
    refine Om (.b (!r6)) ?_
    rcases bft (!r6) with hb7 | hb7
    ·replace hM:=ifT hM hb7
     refine On (want:=false) hb7 ?_
     refine On (want:=false) hb7 ?_
     refine On (want:=false) hb7 ?_
     refine On (want:=false) hb7 ?_
     refine Pt (.b true) hb7 ?_
     refine Om (.b true) ?_
     refine Og ?_
     refine Og ?_
     refine Og ?_
     refine Og ?_
     refine zbN (v:=.b true) (e:=true) (by decide) rfl rfl rfl ?_
     refine Ni ?_
     exact zai true (.k .nil) ⟨(hS.keep [] rfl).up (by omega),hM⟩
    ·replace hM:=ifF hM hb7
     refine Oy (want:=false) hb7 ?_
     refine Of ((Wheel.cells a0)) zcE ?_
     refine Oy (want:=false) hb7 ?_
     refine Olp (.sl .no 1 (a0.Coins.map cI)) zaI zaU ?_
     refine Oy (want:=false) hb7 ?_
     refine zb9 (n:=a0.Coins.length) (by decide) rfl (List.length_map _) zaQ ?_
     refine Oy (want:=false) hb7 ?_
     refine Oi (.b (decide ((a0.Coins.length:Int)>4))) ?_
     refine Pf (.b (decide ((a0.Coins.length:Int)>4))) hb7 ?_
     refine Om (.b (decide ((a0.Coins.length:Int)>4))) ?_
     rcases bft (decide ((a0.Coins.length:Int)>4)) with hb8 | hb8
     ·replace hM:=ifT hM hb8
      refine On (want:=false) hb8 ?_
      refine On (want:=false) hb8 ?_
      refine On (want:=false) hb8 ?_
      refine On (want:=false) hb8 ?_
      refine Pt (.b true) hb8 ?_
      refine Ni ?_
      exact zai true (.k .nil) ⟨(hS.keep [] rfl).up (by omega),hM⟩
     ·replace hM:=ifF hM hb8
      refine Oy (want:=false) hb8 ?_
      refine Of ((Wheel.cells a0)) zcE ?_
      refine Oy (want:=false) hb8 ?_
      refine Olp (.sl .no 1 (a0.Coins.map cI)) zaI zaU ?_
      refine Oy (want:=false) hb8 ?_
      obtain ⟨r9,hr9,hM⟩:=zaj hM
      refine zaO (bs:=[.sl .no 1 (a0.Coins.map cI),.i 1,.i 100]) (by decide) rfl rfl ((zh4 hr9).le (.k (.k (.k .nil)))) ?_
      refine Oy (want:=false) hb8 ?_
      refine zc5 (e:=r9) (by decide) rfl ?_
      refine Pf (.b (!r9)) hb8 ?_
      refine Ni ?_
      exact zai (!r9) (.k .nil) ⟨(hS.keep [] rfl).up (by omega),hM⟩
theorem zk6 {n:Nat} {a0:Wheel} {a1:List Int} {r:Bool} (hM:zfE n a0 a1=some r):zaR Try.prog 5 [.agg (Wheel.cells a0),.sl .no 1 (a1.map cI)] (.b r):=by
 refine zaz mixed Try.func5 rfl (by decide) Try.ntmps5 (by simp) ?pure fun H0 g hf=>?_
 case pure=>exact .v _
 rw [zah]
 change wpA _ _ _ _ (Fr.of [(0,.agg (Wheel.cells a0)),(1,.sl .no 1 (a1.map cI))]) H0 g
 have hS:=St.start hf
 refine Sq ?_
 refine Rg 2 ?_
 refine zcg (v:=.agg (Wheel.cells a0)) (cs:=(Wheel.cells a0)) hS (by decide) rfl rfl (by omega) fun H hS=>?_
 refine Oa (.b false) ?_
 refine Ni ?_
 refine zaW (L':=[]) 0 2 hS rfl rfl rfl fun H hS=>?_
 refine Ws ?_
 refine Sq ?_
 refine Sq ?_
 refine Rg 6 ?_
 refine Om (.sl .no 1 (a1.map cI)) ?_
 refine zb9 (n:=a1.length) (by decide) rfl (List.length_map _) zaQ ?_
 refine Of ((Wheel.cells a0)) zcE ?_
 refine Olp (.sl .no 1 (a0.Coins.map cI)) zaI zaU ?_
 refine zb9 (n:=a0.Coins.length) (by decide) rfl (List.length_map _) zaQ ?_
 refine Oi (.b ((a1.length:Int) != (a0.Coins.length:Int))) ?_
 refine Ni ?_
 refine Ws ?_
 rcases bft ((a1.length:Int) != (a0.Coins.length:Int)) with hb1 | hb1
 ·replace hM:=ifT hM hb1
  refine Ct hb1 ?_
  refine Sq ?_
  refine Rg 1 ?_
  refine Oa (.b false) ?_
  refine Ni ?_
  refine Ws ?_
  refine zaS ?_
  refine zao ?_
  refine zbe (x:=.b false) (f:=fun r=>.b r) (.inr rfl) ?_ (.refl _) (Option.some.inj hM) hS
  exact (zaw (zae (x:=.b false) rfl))
 ·replace hM:=ifF hM hb1
  refine Cf hb1 ?_
  refine zay ?_
  refine Ws ?_
  refine Sq ?_
  refine Rg 1 ?_
  refine Oa (.i 0) ?_
  refine Ni ?_
  refine Ws ?_
  refine zaY (J:=Int) (fun j=>[(5,.i j)]) (fun j H' g'=>St (·<g) H0 [] H' g'/\zej j=some r) ?_ ?_
  ·rintro v2 H g1 ⟨hS,hM⟩
   change wpA _ _ _ _ (Fr.of [(5,.i v2)]) _ _
   replace hS:St (·<g) H0 [] H g1:=hS
   replace hM:zej v2=some r:=hM
   refine Sq ?_
   refine Rg 3 ?_
   refine Om (.i v2) ?_
   refine Oi (.b (decide (v2<=12))) ?_
   refine Oa (.b (decide (v2<=12))) ?_
   refine Ni ?_
   refine Ws ?_
   refine zaS ?_
   refine zbe (x:=.b (decide (v2<=12))) (f:=fun r=>.b r) (.inr rfl) ?_ (.refl _) (Option.some.inj hM) hS
   exact (zaw (zae (x:=.b (decide (v2<=12))) rfl))
  ·refine Sq ?_
   refine Rg 1 ?_
   refine Oa (.i 0) ?_
   refine Ni ?_
   refine Ws ?_
   refine zaB ?_
   refine zco (V:=Int×Int) (fun v=>[(1,.sl .no 1 (a1.map cI)),(5,.i v.1),(6,.i v.2)]) (fun v m2 H' g'=>St (·<g) H0 [] H' g'/\zb3 a1 m2 v.1 v.2=some r) (n:=n) (0,0) (.k (.k (.k .nil))) ⟨(hS.keep [] rfl).up (by omega),hM⟩ ?_
   rintro ⟨v3,v4⟩ m2 H g2 ⟨hS,hM⟩
   obtain _ | m2:=m2
   ·exact nomatch (show none=some _ from hM)
   change wpA _ _ _ _ (Fr.of [(1,.sl .no 1 (a1.map cI)),(5,.i v3),(6,.i v4)]) _ _
   replace hS:St (·<g) H0 [] H g2:=hS
   replace hM:zdE a1 (zb3 a1 m2) v3 v4=some r:=hM
   refine Sq ?_
   refine Sq ?_
   refine Rg 4 ?_
   refine Om (.i v4) ?_
   refine Om (.sl .no 1 (a1.map cI)) ?_
   refine zb9 (n:=a1.length) (by decide) rfl (List.length_map _) zaQ ?_
   refine Oi (.b (decide (v4<(a1.length:Int)))) ?_
   refine Ni ?_
   refine Ws ?_
   rcases bft (decide (v4<(a1.length:Int))) with hb5 | hb5
   ·replace hM:=ifT hM hb5
    refine Ct hb5 ?_
    refine zay ?_
    refine Ws ?_
    refine Sq ?_
    refine zaB ?_
    refine Sq ?_
    refine Sq ?_
    refine Rg 6 ?_
    refine Om (.sl .no 1 (a1.map cI)) ?_
    refine Om (.i v4) ?_
    obtain ⟨x6,hx6,hM⟩:=zaj hM
    refine za8 (xs:=a1) (f:=cI) (z:=v4) (u:=x6) (by decide) rfl rfl zaP hx6 ?_
    refine Olp (.i x6) zaf zal ?_
    obtain ⟨r7,hr7,hM⟩:=zaj hM
    refine zaO (bs:=[.i x6,.i 0,.i 12]) (by decide) rfl rfl ((zgr hr7).le (.k (.k (.k .nil)))) ?_
    refine zc5 (e:=r7) (by decide) rfl ?_
    refine Ni ?_
    refine Ws ?_
    rcases bft (!r7) with hb8 | hb8
    ·replace hM:=ifT hM hb8
     refine Ct hb8 ?_
     refine Sq ?_
     refine Rg 1 ?_
     refine Oa (.b false) ?_
     refine Ni ?_
     refine Ws ?_
     refine zaS ?_
     refine zao ?_
     refine zaV ?_
     refine zao ?_
     refine zbA ?_
     refine zaV ?_
     refine zcn ?_
     refine zbe (x:=.b false) (f:=fun r=>.b r) (.inr rfl) ?_ (.refl _) (Option.some.inj hM) hS
     exact (zaw (zae (x:=.b false) rfl))
    ·replace hM:=ifF hM hb8
     refine Cf hb8 ?_
     refine zay ?_
     refine Ws ?_
     refine Rg 7 ?_
     refine Om (.i v3) ?_
     refine Om (.sl .no 1 (a1.map cI)) ?_
     refine Om (.i v4) ?_
     obtain ⟨x9,hx9,hM⟩:=zaj hM
     refine za8 (xs:=a1) (f:=cI) (z:=v4) (u:=x9) (by decide) rfl rfl zaP hx9 ?_
     refine Olp (.i x9) zaf zal ?_
     refine Oi (.i (w64 (v3+x9))) ?_
     refine Oa (.i (w64 (v3+x9))) ?_
     refine Ni ?_
     refine zas ?_
     refine Ws ?_
     refine Rg 3 ?_
     refine Om (.i v4) ?_
     refine Oi (.i (w64 (v4+1))) ?_
     refine Oa (.i (w64 (v4+1))) ?_
     refine Ni ?_
     exact zbo (w64 (v3+x9),w64 (v4+1)) (Nat.lt_succ_self _) (.k (.k (.k .nil))) ⟨(hS.keep [] rfl).up (by omega),hM⟩
   ·replace hM:=ifF hM hb5
    refine Cf hb5 ?_
    refine zb1 ?_
    refine zav ?_
    refine zau ?_
    refine zaD ?_
    exact zai v3 (.k .nil) ⟨(hS.keep [] rfl).up (by omega),hM⟩
theorem zmT {n:Nat} {a0:List Int} {r:Int} (hM:zg1 n a0=some r):zaR Try.prog 6 [.sl .no 1 (a0.map cI)] (.i r):=by
 refine zaz mixed Try.func6 rfl (by decide) Try.ntmps6 (by simp) ?pure fun H0 g hf=>?_
 case pure=>exact .v _
 rw [zah]
 change wpA _ _ _ _ (Fr.of [(0,.sl .no 1 (a0.map cI))]) H0 g
 have hS:=St.start hf
 refine Sq ?_
 refine Rg 1 ?_
 refine Oa (.i 0) ?_
 refine Ni ?_
 refine Ws ?_
 refine Sq ?_
 refine Rg 1 ?_
 refine Oa (.i 0) ?_
 refine Ni ?_
 refine Ws ?_
 refine zaY (J:=Int) (fun j=>[(3,.i j)]) (fun j H' g'=>St (·<g) H0 [] H' g'/\ze6 j=some r) ?_ ?_
 ·rintro v1 H g1 ⟨hS,hM⟩
  change wpA _ _ _ _ (Fr.of [(3,.i v1)]) _ _
  replace hS:St (·<g) H0 [] H g1:=hS
  replace hM:ze6 v1=some r:=hM
  refine Sq ?_
  refine Rg 2 ?_
  refine Om (.i v1) ?_
  refine Oa (.i v1) ?_
  refine Ni ?_
  refine Ws ?_
  refine zaS ?_
  refine zbe (x:=.i v1) (f:=fun r=>.i r) (.inr rfl) ?_ (.refl _) (Option.some.inj hM) hS
  exact (zaw (zae (x:=.i v1) rfl))
 ·refine Sq ?_
  refine Rg 1 ?_
  refine Oa (.i 0) ?_
  refine Ni ?_
  refine Ws ?_
  refine zaB ?_
  refine zco (V:=Int×Int) (fun v=>[(0,.sl .no 1 (a0.map cI)),(3,.i v.1),(4,.i v.2)]) (fun v m2 H' g'=>St (·<g) H0 [] H' g'/\zcX a0 m2 v.1 v.2=some r) (n:=n) (0,0) (.k (.k (.k .nil))) ⟨(hS.keep [] rfl).up (by omega),hM⟩ ?_
  rintro ⟨v2,v3⟩ m2 H g2 ⟨hS,hM⟩
  obtain _ | m2:=m2
  ·exact nomatch (show none=some _ from hM)
  change wpA _ _ _ _ (Fr.of [(0,.sl .no 1 (a0.map cI)),(3,.i v2),(4,.i v3)]) _ _
  replace hS:St (·<g) H0 [] H g2:=hS
  replace hM:zek a0 (zcX a0 m2) v2 v3=some r:=hM
  refine Sq ?_
  refine Sq ?_
  refine Rg 4 ?_
  refine Om (.i v3) ?_
  refine Om (.sl .no 1 (a0.map cI)) ?_
  refine zb9 (n:=a0.length) (by decide) rfl (List.length_map _) zaQ ?_
  refine Oi (.b (decide (v3<(a0.length:Int)))) ?_
  refine Ni ?_
  refine Ws ?_
  rcases bft (decide (v3<(a0.length:Int))) with hb4 | hb4
  ·replace hM:=ifT hM hb4
   refine Ct hb4 ?_
   refine zay ?_
   refine Ws ?_
   refine Sq ?_
   refine zaB ?_
   refine Rg 7 ?_
   refine Om (.i v2) ?_
   refine Om (.sl .no 1 (a0.map cI)) ?_
   refine Om (.i v3) ?_
   obtain ⟨x5,hx5,hM⟩:=zaj hM
   refine za8 (xs:=a0) (f:=cI) (z:=v3) (u:=x5) (by decide) rfl rfl zaP hx5 ?_
   refine Olp (.i x5) zaf zal ?_
   refine Oi (.i (w64 (v2+x5))) ?_
   refine Oa (.i (w64 (v2+x5))) ?_
   refine Ni ?_
   refine zas ?_
   refine Ws ?_
   refine Rg 3 ?_
   refine Om (.i v3) ?_
   refine Oi (.i (w64 (v3+1))) ?_
   refine Oa (.i (w64 (v3+1))) ?_
   refine Ni ?_
   exact zbo (w64 (v2+x5),w64 (v3+1)) (Nat.lt_succ_self _) (.k (.k (.k .nil))) ⟨(hS.keep [] rfl).up (by omega),hM⟩
  ·replace hM:=ifF hM hb4
   refine Cf hb4 ?_
   refine zb1 ?_
   refine zav ?_
   refine zau ?_
   refine zaD ?_
   exact zai v2 (.k .nil) ⟨(hS.keep [] rfl).up (by omega),hM⟩
theorem zdA {a0:Int} {a1:Int} {a2:Int} {r:Bool} (hM:zcP a0 a1 a2=some r):zaR Try.prog 27 [.i a0,.i a1,.i a2] (.b r):=by
 refine zaz mixed Try.func27 rfl (by decide) Try.ntmps27 (by simp) ?pure fun H0 g hf=>?_
 case pure=>exact .v _
 rw [zah]
 change wpA _ _ _ _ (Fr.of [(0,.i a0),(1,.i a1),(2,.i a2)]) H0 g
 have hS:=St.start hf
 refine Sq ?_
 refine Rg 1 ?_
 refine Oa (.b false) ?_
 refine Ni ?_
 refine Ws ?_
 refine zaY (J:=Bool) (fun j=>[(6,.b j)]) (fun j H' g'=>St (·<g) H0 [] H' g'/\zdR j=some r) ?_ ?_
 ·rintro v1 H g1 ⟨hS,hM⟩
  change wpA _ _ _ _ (Fr.of [(6,.b v1)]) _ _
  replace hS:St (·<g) H0 [] H g1:=hS
  replace hM:zdR v1=some r:=hM
  refine zaS ?_
  refine zbe (x:=.b v1) (f:=fun r=>.b r) (.inr rfl) ?_ (.refl _) (Option.some.inj hM) hS
  exact (zaw (zae (x:=.b v1) rfl))
 ·refine Rg 9 ?_
  refine Om (.i a1) ?_
  refine Om (.i a0) ?_
  refine Oi (.b (decide (a1<=a0))) ?_
  refine Om (.b (decide (a1<=a0))) ?_
  rcases bft (decide (a1<=a0)) with hb2 | hb2
  ·replace hM:=ifT hM hb2
   refine Oy (want:=true) hb2 ?_
   refine Om (.i a0) ?_
   refine Oy (want:=true) hb2 ?_
   refine Om (.i a2) ?_
   refine Oy (want:=true) hb2 ?_
   refine Oi (.b (decide (a0<=a2))) ?_
   refine Pt (.b (decide (a0<=a2))) hb2 ?_
   refine Oa (.b (decide (a0<=a2))) ?_
   refine Ni ?_
   exact zai (decide (a0<=a2)) (.k .nil) ⟨(hS.keep [] rfl).up (by omega),hM⟩
  ·replace hM:=ifF hM hb2
   refine On (want:=true) hb2 ?_
   refine On (want:=true) hb2 ?_
   refine On (want:=true) hb2 ?_
   refine Pf (.b false) hb2 ?_
   refine Oa (.b false) ?_
   refine Ni ?_
   exact zai false (.k .nil) ⟨(hS.keep [] rfl).up (by omega),hM⟩
theorem zh5 {n:Nat} {a0:List Int} {a1:Int} {a2:Int} {r:Bool} (hM:zge n a0 a1 a2=some r):zaR Try.prog 48 [.sl .no 1 (a0.map cI),.i a1,.i a2] (.b r):=by
 refine zaz mixed Try.func48 rfl (by decide) Try.ntmps48 (by simp) ?pure fun H0 g hf=>?_
 case pure=>exact .v _
 rw [zah]
 change wpA _ _ _ _ (Fr.of [(0,.sl .no 1 (a0.map cI)),(1,.i a1),(2,.i a2)]) H0 g
 have hS:=St.start hf
 refine Sq ?_
 refine Rg 1 ?_
 refine Oa (.b false) ?_
 refine Ni ?_
 refine Ws ?_
 refine zaY (J:=Unit) (fun j=>[(0,.sl .no 1 (a0.map cI)),(1,.i a1)]) (fun j H' g'=>St (·<g) H0 [] H' g'/\zeC a0 a1=some r) ?_ ?_
 ·rintro _ H g1 ⟨hS,hM⟩
  change wpA _ _ _ _ (Fr.of [(0,.sl .no 1 (a0.map cI)),(1,.i a1)]) _ _
  replace hS:St (·<g) H0 [] H g1:=hS
  replace hM:zeC a0 a1=some r:=hM
  refine Sq ?_
  refine Rg 5 ?_
  refine Om (.sl .no 1 (a0.map cI)) ?_
  refine zb9 (n:=a0.length) (by decide) rfl (List.length_map _) zaQ ?_
  refine Om (.i a1) ?_
  refine Oi (.b (decide ((a0.length:Int)<=a1))) ?_
  refine Oa (.b (decide ((a0.length:Int)<=a1))) ?_
  refine Ni ?_
  refine Ws ?_
  refine zaS ?_
  refine zbe (x:=.b (decide ((a0.length:Int)<=a1))) (f:=fun r=>.b r) (.inr rfl) ?_ (.refl _) (Option.some.inj hM) hS
  exact (zaw (zae (x:=.b (decide ((a0.length:Int)<=a1))) rfl))
 ·refine Sq ?_
  refine Rg 3 ?_
  refine Om (.sl .no 1 (a0.map cI)) ?_
  refine zb9 (n:=a0.length) (by decide) rfl (List.length_map _) zaQ ?_
  refine Om (.i 0) ?_
  refine Ni ?_
  refine Ws ?_
  refine zaB ?_
  refine zco (V:=Int) (fun v=>[(0,.sl .no 1 (a0.map cI)),(1,.i a1),(2,.i a2),(9,.sl .no 1 (a0.map cI)),(10,.i (a0.length:Int)),(11,.i v)]) (fun v m2 H' g'=>St (·<g) H0 [] H' g'/\zbP a0 a1 a2 m2 v=some r) (n:=n) 0 (.k (.k (.k (.k (.k (.k .nil)))))) ⟨(hS.keep [] rfl).up (by omega),hM⟩ ?_
  rintro v1 m2 H g2 ⟨hS,hM⟩
  obtain _ | m2:=m2
  ·exact nomatch (show none=some _ from hM)
  change wpA _ _ _ _ (Fr.of [(0,.sl .no 1 (a0.map cI)),(1,.i a1),(2,.i a2),(9,.sl .no 1 (a0.map cI)),(10,.i (a0.length:Int)),(11,.i v1)]) _ _
  replace hS:St (·<g) H0 [] H g2:=hS
  replace hM:zd4 a0 a1 a2 (zbP a0 a1 a2 m2) v1=some r:=hM
  refine Sq ?_
  refine Rg 1 ?_
  refine Oi (.b (decide (v1<(a0.length:Int)))) ?_
  refine Ni ?_
  refine Ws ?_
  refine Sq ?_
  rcases bft (decide (v1<(a0.length:Int))) with hb2 | hb2
  ·replace hM:=ifT hM hb2
   refine Ct hb2 ?_
   refine zay ?_
   refine Ws ?_
   refine Sq ?_
   refine zaB ?_
   refine Sq ?_
   refine Rg 5 ?_
   refine Om (.i v1) ?_
   obtain ⟨x3,hx3,hM⟩:=zaj hM
   refine za8 (xs:=a0) (f:=cI) (z:=v1) (u:=x3) (by decide) rfl rfl zaP hx3 ?_
   refine Olp (.i x3) zaf zal ?_
   refine Oa (.i v1) ?_
   refine Oa (.i x3) ?_
   refine Ni ?_
   refine Ws ?_
   refine zaY (J:=Bool) (fun j=>[(0,.sl .no 1 (a0.map cI)),(1,.i a1),(2,.i a2),(9,.sl .no 1 (a0.map cI)),(10,.i (a0.length:Int)),(11,.i v1),(32,.b j)]) (fun j H' g'=>St (·<g) H0 [] H' g'/\zck (zbP a0 a1 a2 m2) v1 j=some r) ?_ ?_
   ·rintro v4 H g3 ⟨hS,hM⟩
    change wpA _ _ _ _ (Fr.of [(0,.sl .no 1 (a0.map cI)),(1,.i a1),(2,.i a2),(9,.sl .no 1 (a0.map cI)),(10,.i (a0.length:Int)),(11,.i v1),(32,.b v4)]) _ _
    replace hS:St (·<g) H0 [] H g3:=hS
    replace hM:zck (zbP a0 a1 a2 m2) v1 v4=some r:=hM
    rcases bft v4 with hb5 | hb5
    ·replace hM:=ifT hM hb5
     refine Ct hb5 ?_
     refine Sq ?_
     refine Rg 1 ?_
     refine Oa (.b false) ?_
     refine Ni ?_
     refine Ws ?_
     refine zaS ?_
     refine zaV ?_
     refine zao ?_
     refine zbA ?_
     refine zaV ?_
     refine zcn ?_
     refine zbe (x:=.b false) (f:=fun r=>.b r) (.inr rfl) ?_ (.refl _) (Option.some.inj hM) hS
     exact (zaw (zae (x:=.b false) rfl))
    ·replace hM:=ifF hM hb5
     refine Cf hb5 ?_
     refine zay ?_
     refine zas ?_
     refine Ws ?_
     refine Rg 2 ?_
     refine Oi (.i (w64 (v1+1))) ?_
     refine Om (.i (w64 (v1+1))) ?_
     refine Ni ?_
     exact zbo (w64 (v1+1)) (Nat.lt_succ_self _) (.k (.k (.k (.k (.k (.k .nil)))))) ⟨(hS.keep [] rfl).up (by omega),hM⟩
   ·refine Rg 17 ?_
    refine Om (.i x3) ?_
    refine Om (.i a2) ?_
    obtain ⟨r6,hr6,hM⟩:=zaj hM
    refine zaO (bs:=[.i x3,.i 1,.i a2]) (by decide) rfl rfl ((zdA hr6).le (.k (.k (.k .nil)))) ?_
    refine zc5 (e:=r6) (by decide) rfl ?_
    refine Om (.b (!r6)) ?_
    rcases bft (!r6) with hb7 | hb7
    ·replace hM:=ifT hM hb7
     refine On (want:=false) hb7 ?_
     refine On (want:=false) hb7 ?_
     refine On (want:=false) hb7 ?_
     refine zam (j:=7) (by decide) rfl ?_
     refine zam (j:=7) (by decide) rfl ?_
     refine zam (j:=7) (by decide) rfl ?_
     refine zam (j:=7) (by decide) rfl ?_
     refine zam (j:=7) (by decide) rfl ?_
     refine zam (j:=7) (by decide) rfl ?_
     refine zam (j:=7) (by decide) rfl ?_
     refine On (want:=false) hb7 ?_
     refine Pt (.b true) hb7 ?_
     refine Ni ?_
     exact zai true (.k (.k (.k (.k (.k (.k (.k .nil))))))) ⟨(hS.keep [] rfl).up (by omega),hM⟩
    ·replace hM:=ifF hM hb7
     refine Oy (want:=false) hb7 ?_
     refine Om (.i v1) ?_
     refine Oy (want:=false) hb7 ?_
     refine Oi (.b (decide (v1>0))) ?_
     refine Oy (want:=false) hb7 ?_
     refine Om (.b (decide (v1>0))) ?_
     rcases bft (decide (v1>0)) with hb8 | hb8
     ·replace hM:=ifT hM hb8
      refine Oy (want:=true) hb8 ?_
      refine Om (.i x3) ?_
      refine Oy (want:=true) hb8 ?_
      refine Om (.sl .no 1 (a0.map cI)) ?_
      refine Oy (want:=true) hb8 ?_
      refine Om (.i v1) ?_
      refine Oy (want:=true) hb8 ?_
      refine Oi (.i (w64 (v1-1))) ?_
      refine Oy (want:=true) hb8 ?_
      obtain ⟨x9,hx9,hM⟩:=zaj hM
      refine za8 (xs:=a0) (f:=cI) (z:=(w64 (v1-1))) (u:=x9) (by decide) rfl rfl zaP hx9 ?_
      refine Oy (want:=true) hb8 ?_
      refine Olp (.i x9) zaf zal ?_
      refine Oy (want:=true) hb8 ?_
      refine Oi (.b (decide (x3<=x9))) ?_
      refine Oy (want:=false) hb7 ?_
      refine Pt (.b (decide (x3<=x9))) hb8 ?_
      refine Pf (.b (decide (x3<=x9))) hb7 ?_
      refine Ni ?_
      exact zai (decide (x3<=x9)) (.k (.k (.k (.k (.k (.k (.k .nil))))))) ⟨(hS.keep [] rfl).up (by omega),hM⟩
     ·replace hM:=ifF hM hb8
      refine On (want:=true) hb8 ?_
      refine On (want:=true) hb8 ?_
      refine On (want:=true) hb8 ?_
      refine On (want:=true) hb8 ?_
      refine On (want:=true) hb8 ?_
      refine On (want:=true) hb8 ?_
      refine On (want:=true) hb8 ?_
      refine Oy (want:=false) hb7 ?_
      refine Pf (.b false) hb8 ?_
      refine Pf (.b false) hb7 ?_
      refine Ni ?_
      exact zai false (.k (.k (.k (.k (.k (.k (.k .nil))))))) ⟨(hS.keep [] rfl).up (by omega),hM⟩
  ·replace hM:=ifF hM hb2
   refine Cf hb2 ?_
   refine zb1 ?_
   refine zav ?_
   refine zau ?_
   refine zaD ?_
   exact zai () (.k (.k .nil)) ⟨(hS.keep [] rfl).up (by omega),hM⟩
theorem zi3 {n:Nat} {a0:Wheel} {r:Int} (hM:zfU n a0=some r):zaR Try.prog 38 [.agg (Wheel.cells a0)] (.i r):=by
 refine zaz mixed Try.func38 rfl (by decide) Try.ntmps38 (by simp) ?pure fun H0 g hf=>?_
 case pure=>exact .v _
 rw [zah]
 change wpA _ _ _ _ (Fr.of [(0,.agg (Wheel.cells a0))]) H0 g
 have hS:=St.start hf
 refine Sq ?_
 refine Rg 2 ?_
 refine zcg (v:=.agg (Wheel.cells a0)) (cs:=(Wheel.cells a0)) hS (by decide) rfl rfl (by omega) fun H hS=>?_
 refine Oa (.i 0) ?_
 refine Ni ?_
 refine zaW (L':=[]) 0 1 hS rfl rfl rfl fun H hS=>?_
 refine Ws ?_
 refine Sq ?_
 refine zaY (J:=Bool) (fun j=>[(20,.b j)]) (fun j H' g'=>St (·<g) H0 [] H' g'/\zdx j=some r) ?_ ?_
 ·rintro v1 H g1 ⟨hS,hM⟩
  change wpA _ _ _ _ (Fr.of [(20,.b v1)]) _ _
  replace hS:St (·<g) H0 [] H g1:=hS
  replace hM:zdx v1=some r:=hM
  rcases bft v1 with hb2 | hb2
  ·replace hM:=ifT hM hb2
   refine Ct hb2 ?_
   refine Sq ?_
   refine Rg 1 ?_
   refine Oa (.i 10) ?_
   refine Ni ?_
   refine Ws ?_
   refine zaS ?_
   refine zao ?_
   refine zbe (x:=.i 10) (f:=fun r=>.i r) (.inr rfl) ?_ (.refl _) (Option.some.inj hM) hS
   exact (zaw (zae (x:=.i 10) rfl))
  ·replace hM:=ifF hM hb2
   refine Cf hb2 ?_
   refine zay ?_
   refine Ws ?_
   refine Sq ?_
   refine Rg 1 ?_
   refine Oa (.i 0) ?_
   refine Ni ?_
   refine Ws ?_
   refine zaS ?_
   refine zbe (x:=.i 0) (f:=fun r=>.i r) (.inr rfl) ?_ (.refl _) (Option.some.inj hM) hS
   exact (zaw (zae (x:=.i 0) rfl))
 ·refine Rg 18 ?_
  refine Of ((Wheel.cells a0)) zef ?_
  refine Olp (.i a0.Round) zaf zal ?_
  obtain ⟨r3,hr3,hM⟩:=zaj hM
  refine zaO (bs:=[.i a0.Round,.i 1,.i 200]) (by decide) rfl rfl ((zdA hr3).le (.k (.k (.k .nil)))) ?_
  refine zc5 (e:=r3) (by decide) rfl ?_
  refine Om (.b (!r3)) ?_
  rcases bft (!r3) with hb4 | hb4
  ·replace hM:=ifT hM hb4
   refine On (want:=false) hb4 ?_
   refine On (want:=false) hb4 ?_
   refine On (want:=false) hb4 ?_
   refine On (want:=false) hb4 ?_
   refine On (want:=false) hb4 ?_
   refine On (want:=false) hb4 ?_
   refine Pt (.b true) hb4 ?_
   refine Om (.b true) ?_
   refine Og ?_
   refine Og ?_
   refine Og ?_
   refine Og ?_
   refine zbN (v:=.b true) (e:=true) (by decide) rfl rfl rfl ?_
   refine Ni ?_
   exact zai true (.k .nil) ⟨(hS.keep [] rfl).up (by omega),hM⟩
  ·replace hM:=ifF hM hb4
   refine Oy (want:=false) hb4 ?_
   refine Of ((Wheel.cells a0)) zhz ?_
   refine Oy (want:=false) hb4 ?_
   refine Olp (.sl .no 1 (a0.Notches.map cI)) zaI zaU ?_
   refine Oy (want:=false) hb4 ?_
   refine Of ((Wheel.cells a0)) zef ?_
   refine Oy (want:=false) hb4 ?_
   refine Olp (.i a0.Round) zaf zal ?_
   refine Oy (want:=false) hb4 ?_
   obtain ⟨r5,hr5,hM⟩:=zaj hM
   refine zaO (bs:=[.sl .no 1 (a0.Notches.map cI),.i 12,.i a0.Round]) (by decide) rfl rfl ((zh5 hr5).le (.k (.k (.k .nil)))) ?_
   refine Oy (want:=false) hb4 ?_
   refine zc5 (e:=r5) (by decide) rfl ?_
   refine Pf (.b (!r5)) hb4 ?_
   refine Om (.b (!r5)) ?_
   rcases bft (!r5) with hb6 | hb6
   ·replace hM:=ifT hM hb6
    refine On (want:=false) hb6 ?_
    refine On (want:=false) hb6 ?_
    refine On (want:=false) hb6 ?_
    refine On (want:=false) hb6 ?_
    refine Pt (.b true) hb6 ?_
    refine Ni ?_
    exact zai true (.k .nil) ⟨(hS.keep [] rfl).up (by omega),hM⟩
   ·replace hM:=ifF hM hb6
    refine Oy (want:=false) hb6 ?_
    refine Of ((Wheel.cells a0)) zcE ?_
    refine Oy (want:=false) hb6 ?_
    refine Olp (.sl .no 1 (a0.Coins.map cI)) zaI zaU ?_
    refine Oy (want:=false) hb6 ?_
    obtain ⟨r7,hr7,hM⟩:=zaj hM
    refine zaO (bs:=[.sl .no 1 (a0.Coins.map cI),.i 4,.i 100]) (by decide) rfl rfl ((zh5 hr7).le (.k (.k (.k .nil)))) ?_
    refine Oy (want:=false) hb6 ?_
    refine zc5 (e:=r7) (by decide) rfl ?_
    refine Pf (.b (!r7)) hb6 ?_
    refine Ni ?_
    exact zai (!r7) (.k .nil) ⟨(hS.keep [] rfl).up (by omega),hM⟩
theorem zhD {S:Type} {Lo:S->BL} (hk:∀s s',zg7 (Lo s) (Lo s')) (hnd:∀s,(ids (Lo s)).Nodup) (hin:∀s,InB In (Lo s)) {aF:Wheel_->S->Option (Bool×S)} {f0:AV} (hF:∀s H,Has H (Lo s)->In H f0) (h0:cellsOf f0=some [f0]) (hf:∀{x0:Wheel_} {s:S} {r:Bool×S},aF x0 s=some r->zlo Try.prog f0 [.agg (Wheel.cells x0.Wheel)] (Lo s) (.b r.1) (Lo r.2)) {n:Nat} {a0:Wheel} {st:S} {r:(Wheel_×Int)×S} (hM:zeY n aF a0 st=some r):zhc Try.prog 25 [.agg (Wheel.cells a0),f0] (Lo st) (.tup [.agg [.i r.1.1.Wheel.Round,.sl .no 1 (r.1.1.Wheel.Notches.map cI),.sl .no 1 (r.1.1.Wheel.Coins.map cI)],.i r.1.2]) (Lo r.2):=by
 have hnd0:∀s,(ids (Lo s)).Nodup:=fun s=>hnd s
 refine zbE mixed Try.func25 rfl (by decide) Try.ntmps25 (by simp) (hk _ _) (hnd st) ?pure ?cells fun H0 g hf_ hp=>?_
 case pure=>exact fun H _=>(show Go.AM.Pure _ from .tup _ (zab (.agg _ (zab (.v _) (zab (.sl _ _ (zaA (fun x=>(zab (.v _) zaJ)))) (zab (.sl _ _ (zaA (fun x=>(zab (.v _) zaJ)))) zaJ)))) (zab (.v _) zaJ))).inH
 case cells=>exact hin _
 rw [zah]
 change wpA _ _ _ _ (Fr.of [(0,.agg (Wheel.cells a0)),(1,f0)]) H0 g
 have hS:=St.startH (L:=([]++Lo st)) hf_ (hnd st) hp
 replace hS:St (fun i=>i<g/\i∉ids (Lo st)) H0 ([]++Lo st) H0 g:=hS
 refine Sq ?_
 refine Rg 3 ?_
 refine zcg (v:=.agg (Wheel.cells a0)) (cs:=(Wheel.cells a0)) hS (by decide) rfl rfl (by omega) fun H hS=>?_
 refine za4 hS (by decide) zfk (by omega) fun H hS=>?_
 refine Oa (.i 0) ?_
 refine Ni ?_
 refine zaW (L':=([(g+1,.cells [.i 0,.sl .nil 0 [],.sl .nil 0 []])]++Lo st)) 1 2 hS rfl rfl rfl fun H hS=>?_
 refine Ws ?_
 refine Sq ?_
 refine Sq ?_
 refine Rg 3 ?_
 refine Olg (.agg (Wheel.cells a0)) zdq ?_
 obtain ⟨r1,hr1,hM⟩:=zaj hM
 refine zaO (bs:=[.agg (Wheel.cells a0)]) (by decide) rfl rfl ((zi3 hr1).le (.k .nil)) ?_
 refine Oa (.i r1) ?_
 refine Ni ?_
 refine Ws ?_
 refine Sq ?_
 refine Rg 2 ?_
 refine Om (.i r1) ?_
 refine Oi (.b (r1 != 0)) ?_
 refine Ni ?_
 refine Ws ?_
 rcases bft (r1 != 0) with hb2 | hb2
 ·replace hM:=ifT hM hb2
  refine Ct hb2 ?_
  refine Sq ?_
  refine Rg 4 ?_
  refine zbf (cs:=[.i 0,.sl .nil 0 [],.sl .nil 0 []]) (by decide) zfk zmN rfl ?_
  refine Om (.i r1) ?_
  refine zaC (v:=.agg [.i 0,.sl .nil 0 [],.sl .nil 0 []]) (ns:=[.i 0,.sl .nil 0 [],.sl .nil 0 []]) (L':=([(g+1,.cells [.i 0,.sl .nil 0 [],.sl .nil 0 []])]++Lo st)) 0 hS rfl rfl .no rfl rfl zhT nlb rfl fun H hS=>?_
  refine Oa (.i r1) ?_
  refine Ni ?_
  refine Ws ?_
  refine zaS ?_
  refine zao ?_
  refine zdf (x:=.tup [.agg [.i 0,.sl .nil 0 [],.sl .nil 0 []],.i r1]) (f:=fun r=>.tup [.agg [.i r.1.1.Wheel.Round,.sl .no 1 (r.1.1.Wheel.Notches.map cI),.sl .no 1 (r.1.1.Wheel.Coins.map cI)],.i r.1.2]) (fd:=fun r=>(Lo r.2)) (.inr rfl) ?_ (.tupL (.cons (.aggL (.k (.cons (.sl0 .nil 1 0) (.cons (.sl0 .nil 1 0) .nil)))) (.k .nil))) (Option.some.inj hM) hS 1 rfl
  exact (zdC (zdh (x:=.agg [.i 0,.sl .nil 0 [],.sl .nil 0 []]) 0 hS rfl rfl (pg zd7)) (zae (x:=.i r1) rfl))
 ·replace hM:=ifF hM hb2
  refine Cf hb2 ?_
  refine zay ?_
  refine Ws ?_
  refine Sq ?_
  refine Sq ?_
  refine Rg 5 ?_
  refine Om (f0) ?_
  refine Olg (.agg (Wheel.cells a0)) zdq ?_
  refine zbf (cs:=(Wheel.cells a0)) (by decide) zfk zmN rfl ?_
  obtain ⟨r3,hr3,hM⟩:=zaj hM
  replace hS:St (fun i=>i<g/\i∉ids (Lo st)) H0 ([(g+1,.cells [.i 0,.sl .nil 0 [],.sl .nil 0 []])]++Lo st) _ _:=hS
  refine zgW (bs:=[.agg (Wheel.cells a0)]) (.inl rfl) hS (by decide) rfl rfl ((hf hr3).le (.k .nil)) (hk _ _).ids (by omega) fun H hS=>?_
  refine zc5 (e:=r3.1) (by decide) rfl ?_
  refine Ni ?_
  refine Ws ?_
  rcases bft (!r3.1) with hb4 | hb4
  ·replace hM:=ifT hM hb4
   refine Ct hb4 ?_
   refine Sq ?_
   refine Rg 3 ?_
   refine zbf (cs:=[.i 0,.sl .nil 0 [],.sl .nil 0 []]) (by decide) zfk zmN rfl ?_
   refine zaC (v:=.agg [.i 0,.sl .nil 0 [],.sl .nil 0 []]) (ns:=[.i 0,.sl .nil 0 [],.sl .nil 0 []]) (L':=([(g+1,.cells [.i 0,.sl .nil 0 [],.sl .nil 0 []])]++Lo r3.2)) 0 hS rfl rfl .no rfl rfl zhT nlb rfl fun H hS=>?_
   refine Oa (.i 1) ?_
   refine Ni ?_
   refine Ws ?_
   refine zaS ?_
   refine zao ?_
   refine zdf (x:=.tup [.agg [.i 0,.sl .nil 0 [],.sl .nil 0 []],.i 1]) (f:=fun r=>.tup [.agg [.i r.1.1.Wheel.Round,.sl .no 1 (r.1.1.Wheel.Notches.map cI),.sl .no 1 (r.1.1.Wheel.Coins.map cI)],.i r.1.2]) (fd:=fun r=>(Lo r.2)) (.inr rfl) ?_ (.tupL (.cons (.aggL (.k (.cons (.sl0 .nil 1 0) (.cons (.sl0 .nil 1 0) .nil)))) (.k .nil))) (Option.some.inj hM) hS 1 rfl
   exact (zdC (zdh (x:=.agg [.i 0,.sl .nil 0 [],.sl .nil 0 []]) 0 hS rfl rfl (pg zd7)) (zae (x:=.i 1) rfl))
  ·replace hM:=ifF hM hb4
   refine Cf hb4 ?_
   refine zay ?_
   refine Ws ?_
   refine Sq ?_
   refine Rg 4 ?_
   refine Olg (.agg (Wheel.cells a0)) zdq ?_
   refine zbf (cs:=(Wheel.cells a0)) (by decide) zfk zmN rfl ?_
   refine zaC (v:=.agg (Wheel.cells a0)) (ns:=(Wheel.cells a0)) (L':=([(g+1,.cells (Wheel.cells a0))]++Lo r3.2)) 0 hS rfl rfl .no rfl rfl zhT nlb rfl fun H hS=>?_
   refine Oa (.i 0) ?_
   refine Ni ?_
   refine Ws ?_
   refine zaS ?_
   refine zdf (x:=.tup [.agg (Wheel.cells a0),.i 0]) (f:=fun r=>.tup [.agg [.i r.1.1.Wheel.Round,.sl .no 1 (r.1.1.Wheel.Notches.map cI),.sl .no 1 (r.1.1.Wheel.Coins.map cI)],.i r.1.2]) (fd:=fun r=>(Lo r.2)) (.inr rfl) ?_ (.refl _) (Option.some.inj hM) hS 1 rfl
   exact (zdC (zdh (x:=.agg (Wheel.cells a0)) 0 hS rfl rfl (pg zd7)) (zae (x:=.i 0) rfl))
theorem zhE {p1:Nat} (hnd:[p1].Nodup) {n:Nat} {a0:Wheel_} {a1:List Int} {st:Spot_} {r:Bool×Spot_} (hM:zdi n a0 a1 st=some r):zhc Try.prog 26 [.agg (Wheel.cells a0.Wheel),.ep [.sl .no 1 (a1.map cI)],.ptr p1 0] [(p1,.cells (Spot_.cells st))] (.b r.1) [(p1,.cells [.i r.2.left.c0,.i r.2.left.c1,.i r.2.left.c2,.i r.2.left.c3,.i r.2.place,.i r.2.credit])]:=by
 refine zbE mixed Try.func26 rfl (by decide) Try.ntmps26 (by simp) (zd1 zfS) hnd ?pure ?cells fun H0 g hf_ hp=>?_
 case pure=>exact fun H _=>(show Go.AM.Pure _ from .v _).inH
 case cells=>exact (ziC (zeA (zbK (.inl (.inl (.v _))) (zbK (.inl (.inl (.v _))) (zbK (.inl (.inl (.v _))) (zbK (.inl (.inl (.v _))) (zbK (.inl (.inl (.v _))) (zbK (.inl (.inl (.v _))) zhs)))))) ziB) zeW)
 rw [zah]
 change wpA _ _ _ _ (Fr.of [(0,.agg (Wheel.cells a0.Wheel)),(1,.ep [.sl .no 1 (a1.map cI)]),(2,.ptr p1 0)]) H0 g
 have hS:=St.startH (L:=[(p1,.cells (Spot_.cells st))]) hf_ hnd hp
 replace hS:St (fun i=>i<g/\i∉ids [(p1,.cells (Spot_.cells st))]) H0 [(p1,.cells (Spot_.cells st))] H0 g:=hS
 refine Sq ?_
 refine Rg 2 ?_
 refine zcg (v:=.agg (Wheel.cells a0.Wheel)) (cs:=(Wheel.cells a0.Wheel)) hS (by decide) rfl rfl (by omega) fun H hS=>?_
 refine Oa (.b false) ?_
 refine Ni ?_
 refine zaW (L':=[(p1,.cells (Spot_.cells st))]) 0 3 hS rfl rfl rfl fun H hS=>?_
 refine Ws ?_
 refine Sq ?_
 refine Rg 1 ?_
 refine Oa (.i 0) ?_
 refine Ni ?_
 refine Ws ?_
 refine zaY (J:=Int×Int×Int×Int×Int) (fun j=>[(1,.ep [.sl .no 1 (a1.map cI)]),(3,.ep (Wheel.cells a0.Wheel)),(5,.i j.1)]) (fun j H' g'=>St (fun i=>i<g/\i∉ids [(p1,.cells (Spot_.cells st))]) H0 [(p1,.cells [.i j.2.1,.i j.2.2.1,.i j.2.2.2.1,.i j.2.2.2.2,.i st.place,.i st.credit])] H' g'/\zel a0 st a1 j.1 j.2.1 j.2.2.1 j.2.2.2.1 j.2.2.2.2=some r) ?_ ?_
 ·rintro ⟨v1,v2,v3,v4,v5⟩ H g1 ⟨hS,hM⟩
  change wpA _ _ _ _ (Fr.of [(1,.ep [.sl .no 1 (a1.map cI)]),(3,.ep (Wheel.cells a0.Wheel)),(5,.i v1)]) _ _
  replace hS:St (fun i=>i<g/\i∉ids [(p1,.cells (Spot_.cells st))]) H0 [(p1,.cells [.i v2,.i v3,.i v4,.i v5,.i st.place,.i st.credit])] H g1:=hS
  replace hM:zel a0 st a1 v1 v2 v3 v4 v5=some r:=hM
  refine zaY (J:=Bool) (fun j=>[(4,.b j)]) (fun j H' g'=>St (fun i=>i<g/\i∉ids [(p1,.cells (Spot_.cells st))]) H0 [(p1,.cells [.i v2,.i v3,.i v4,.i v5,.i st.place,.i st.credit])] H' g'/\zdr st v2 v3 v4 v5 j=some r) ?_ ?_
  ·rintro v6 H g2 ⟨hS,hM⟩
   change wpA _ _ _ _ (Fr.of [(4,.b v6)]) _ _
   replace hS:St (fun i=>i<g/\i∉ids [(p1,.cells (Spot_.cells st))]) H0 [(p1,.cells [.i v2,.i v3,.i v4,.i v5,.i st.place,.i st.credit])] H g2:=hS
   replace hM:zdr st v2 v3 v4 v5 v6=some r:=hM
   refine zaS ?_
   refine zdf (x:=.b v6) (f:=fun r=>.b r.1) (fd:=fun r=>[(p1,.cells [.i r.2.left.c0,.i r.2.left.c1,.i r.2.left.c2,.i r.2.left.c3,.i r.2.place,.i r.2.credit])]) (.inr rfl) ?_ (.refl _) (Option.some.inj hM) hS 0 rfl
   exact (zaw (zae (x:=.b v6) rfl))
  ·refine Rg 12 ?_
   refine Olp (.sl .no 1 (a1.map cI)) zaI zaU ?_
   refine zb9 (n:=a1.length) (by decide) rfl (List.length_map _) zaQ ?_
   refine Of ((Wheel.cells a0.Wheel)) zda ?_
   refine Of ((Wheel.cells a0.Wheel)) zcE ?_
   refine Olp (.sl .no 1 (a0.Wheel.Coins.map cI)) zaI zaU ?_
   refine zb9 (n:=a0.Wheel.Coins.length) (by decide) rfl (List.length_map _) zaQ ?_
   refine Oi (.b ((a1.length:Int)==(a0.Wheel.Coins.length:Int))) ?_
   refine Om (.b ((a1.length:Int)==(a0.Wheel.Coins.length:Int))) ?_
   rcases bft ((a1.length:Int)==(a0.Wheel.Coins.length:Int)) with hb7 | hb7
   ·replace hM:=ifT hM hb7
    refine Oy (want:=true) hb7 ?_
    refine Om (.i v1) ?_
    refine Oy (want:=true) hb7 ?_
    refine Oi (.b (decide (v1<=12))) ?_
    refine Pt (.b (decide (v1<=12))) hb7 ?_
    refine Oa (.b (decide (v1<=12))) ?_
    refine Ni ?_
    exact zai (decide (v1<=12)) (.k .nil) ⟨(hS.keep [true] rfl).up (by omega),hM⟩
   ·replace hM:=ifF hM hb7
    refine On (want:=true) hb7 ?_
    refine On (want:=true) hb7 ?_
    refine Pf (.b false) hb7 ?_
    refine Oa (.b false) ?_
    refine Ni ?_
    exact zai false (.k .nil) ⟨(hS.keep [true] rfl).up (by omega),hM⟩
 ·refine Sq ?_
  refine Rg 3 ?_
  refine Olp (.sl .no 1 (a1.map cI)) zaI zaU ?_
  refine zb9 (n:=a1.length) (by decide) rfl (List.length_map _) zaQ ?_
  refine Om (.i 0) ?_
  refine Ni ?_
  refine Ws ?_
  refine zaB ?_
  refine zco (V:=Int×Int×Int×Int×Int×Int) (fun v=>[(1,.ep [.sl .no 1 (a1.map cI)]),(2,.ptr p1 0),(3,.ep (Wheel.cells a0.Wheel)),(5,.i v.1),(8,.sl .no 1 (a1.map cI)),(9,.i (a1.length:Int)),(10,.i v.2.1)]) (fun v m4 H' g'=>St (fun i=>i<g/\i∉ids [(p1,.cells (Spot_.cells st))]) H0 [(p1,.cells [.i v.2.2.1,.i v.2.2.2.1,.i v.2.2.2.2.1,.i v.2.2.2.2.2,.i st.place,.i st.credit])] H' g'/\zbv a0 st a1 m4 v.1 v.2.1 v.2.2.1 v.2.2.2.1 v.2.2.2.2.1 v.2.2.2.2.2=some r) (n:=n) (0,0,st.left.c0,st.left.c1,st.left.c2,st.left.c3) (.k (.k (.k (.k (.k (.k (.k .nil))))))) ⟨(hS.keep [true] rfl).up (by omega),hM⟩ ?_
  rintro ⟨v10,v11,v12,v13,v14,v15⟩ m4 H g4 ⟨hS,hM⟩
  obtain _ | m4:=m4
  ·exact nomatch (show none=some _ from hM)
  change wpA _ _ _ _ (Fr.of [(1,.ep [.sl .no 1 (a1.map cI)]),(2,.ptr p1 0),(3,.ep (Wheel.cells a0.Wheel)),(5,.i v10),(8,.sl .no 1 (a1.map cI)),(9,.i (a1.length:Int)),(10,.i v11)]) _ _
  replace hS:St (fun i=>i<g/\i∉ids [(p1,.cells (Spot_.cells st))]) H0 [(p1,.cells [.i v12,.i v13,.i v14,.i v15,.i st.place,.i st.credit])] H g4:=hS
  replace hM:zdF a0 st a1 (zbv a0 st a1 m4) v10 v11 v12 v13 v14 v15=some r:=hM
  refine Sq ?_
  refine Rg 1 ?_
  refine Oi (.b (decide (v11<(a1.length:Int)))) ?_
  refine Ni ?_
  refine Ws ?_
  refine Sq ?_
  rcases bft (decide (v11<(a1.length:Int))) with hb16 | hb16
  ·replace hM:=ifT hM hb16
   refine Ct hb16 ?_
   refine zay ?_
   refine Ws ?_
   refine Sq ?_
   refine zaB ?_
   refine Sq ?_
   refine Rg 5 ?_
   refine Om (.i v11) ?_
   obtain ⟨x17,hx17,hM⟩:=zaj hM
   refine za8 (xs:=a1) (f:=cI) (z:=v11) (u:=x17) (by decide) rfl rfl zaP hx17 ?_
   refine Olp (.i x17) zaf zal ?_
   refine Oa (.i v11) ?_
   refine Oa (.i x17) ?_
   refine Ni ?_
   refine Ws ?_
   refine Sq ?_
   refine zaY (J:=Bool) (fun j=>[(1,.ep [.sl .no 1 (a1.map cI)]),(2,.ptr p1 0),(3,.ep (Wheel.cells a0.Wheel)),(5,.i v10),(6,.i v11),(7,.i x17),(8,.sl .no 1 (a1.map cI)),(9,.i (a1.length:Int)),(10,.i v11),(25,.b j)]) (fun j H' g'=>St (fun i=>i<g/\i∉ids [(p1,.cells (Spot_.cells st))]) H0 [(p1,.cells [.i v12,.i v13,.i v14,.i v15,.i st.place,.i st.credit])] H' g'/\zcM (zbv a0 st a1 m4) st v10 v11 v12 v13 v14 v15 x17 j=some r) ?_ ?_
   ·rintro v18 H g5 ⟨hS,hM⟩
    change wpA _ _ _ _ (Fr.of [(1,.ep [.sl .no 1 (a1.map cI)]),(2,.ptr p1 0),(3,.ep (Wheel.cells a0.Wheel)),(5,.i v10),(6,.i v11),(7,.i x17),(8,.sl .no 1 (a1.map cI)),(9,.i (a1.length:Int)),(10,.i v11),(25,.b v18)]) _ _
    replace hS:St (fun i=>i<g/\i∉ids [(p1,.cells (Spot_.cells st))]) H0 [(p1,.cells [.i v12,.i v13,.i v14,.i v15,.i st.place,.i st.credit])] H g5:=hS
    replace hM:zcM (zbv a0 st a1 m4) st v10 v11 v12 v13 v14 v15 x17 v18=some r:=hM
    rcases bft v18 with hb19 | hb19
    ·replace hM:=ifT hM hb19
     refine Ct hb19 ?_
     refine Sq ?_
     refine Rg 1 ?_
     refine Oa (.b false) ?_
     refine Ni ?_
     refine Ws ?_
     refine zaS ?_
     refine zao ?_
     refine zaV ?_
     refine zao ?_
     refine zbA ?_
     refine zaV ?_
     refine zcn ?_
     refine zdf (x:=.b false) (f:=fun r=>.b r.1) (fd:=fun r=>[(p1,.cells [.i r.2.left.c0,.i r.2.left.c1,.i r.2.left.c2,.i r.2.left.c3,.i r.2.place,.i r.2.credit])]) (.inr rfl) ?_ (.refl _) (Option.some.inj hM) hS 0 rfl
     exact (zaw (zae (x:=.b false) rfl))
    ·replace hM:=ifF hM hb19
     refine Cf hb19 ?_
     refine zay ?_
     refine Ws ?_
     refine Sq ?_
     refine Rg 5 ?_
     refine Om (.i v11) ?_
     refine Om (.i x17) ?_
     refine zap (by decide) zhC rfl ?_
     obtain ⟨x20,hx20,hM⟩:=zaj hM
     refine ze5 (z:=v11) (by decide) rfl rfl zj9 (zeO hx20) ?_
     obtain ⟨l21,hl21,hM⟩:=zaj hM
     refine ziF (xs:=([v12,v13,v14,v15]:List Int)) (u:=l21) (z:=v11) (v:=x17) (off:=0+0) (cs':=[.i (l21.getD 0 0),.i (l21.getD 1 0),.i (l21.getD 2 0),.i (l21.getD 3 0),.i st.place,.i st.credit]) (L':=[(p1,.cells [.i (l21.getD 0 0),.i (l21.getD 1 0),.i (l21.getD 2 0),.i (l21.getD 3 0),.i st.place,.i st.credit])]) 0 hS rfl rfl .no rfl rfl hl21 zdV rfl rfl fun H hS=>?_
     refine Ni ?_
     refine Ws ?_
     refine Rg 4 ?_
     refine Om (.i v10) ?_
     refine Om (.i x17) ?_
     refine Oi (.i (w64 (v10+x17))) ?_
     refine Oa (.i (w64 (v10+x17))) ?_
     refine Ni ?_
     refine zas ?_
     refine Ws ?_
     refine Rg 2 ?_
     refine Oi (.i (w64 (v11+1))) ?_
     refine Om (.i (w64 (v11+1))) ?_
     refine Ni ?_
     exact zbo (w64 (v10+x17),w64 (v11+1),(l21.getD 0 0),(l21.getD 1 0),(l21.getD 2 0),(l21.getD 3 0)) (Nat.lt_succ_self _) (.k (.k (.k (.k (.k (.k (.k .nil))))))) ⟨(hS.keep [true] rfl).up (by omega),hM⟩
   ·refine Rg 11 ?_
    refine Om (.i v11) ?_
    refine Of ((Wheel.cells a0.Wheel)) zda ?_
    refine Of ((Wheel.cells a0.Wheel)) zcE ?_
    refine Olp (.sl .no 1 (a0.Wheel.Coins.map cI)) zaI zaU ?_
    refine zb9 (n:=a0.Wheel.Coins.length) (by decide) rfl (List.length_map _) zaQ ?_
    refine Oi (.b (decide (v11≥(a0.Wheel.Coins.length:Int)))) ?_
    refine Om (.b (decide (v11≥(a0.Wheel.Coins.length:Int)))) ?_
    rcases bft (decide (v11≥(a0.Wheel.Coins.length:Int))) with hb22 | hb22
    ·replace hM:=ifT hM hb22
     refine On (want:=false) hb22 ?_
     refine On (want:=false) hb22 ?_
     refine On (want:=false) hb22 ?_
     refine Pt (.b true) hb22 ?_
     refine Ni ?_
     exact zai true (.k (.k (.k (.k (.k (.k (.k (.k (.k (.k .nil)))))))))) ⟨(hS.keep [true] rfl).up (by omega),hM⟩
    ·replace hM:=ifF hM hb22
     refine Oy (want:=false) hb22 ?_
     refine Om (.i x17) ?_
     refine Oy (want:=false) hb22 ?_
     obtain ⟨r23,hr23,hM⟩:=zaj hM
     refine zaO (bs:=[.i x17,.i 0,.i 12]) (by decide) rfl rfl ((zdA hr23).le (.k (.k (.k .nil)))) ?_
     refine Oy (want:=false) hb22 ?_
     refine zc5 (e:=r23) (by decide) rfl ?_
     refine Pf (.b (!r23)) hb22 ?_
     refine Ni ?_
     exact zai (!r23) (.k (.k (.k (.k (.k (.k (.k (.k (.k (.k .nil)))))))))) ⟨(hS.keep [true] rfl).up (by omega),hM⟩
  ·replace hM:=ifF hM hb16
   refine Cf hb16 ?_
   refine zb1 ?_
   refine zav ?_
   refine zau ?_
   refine zaD ?_
   exact zai (v10,v12,v13,v14,v15) (.k (.k (.k .nil))) ⟨(hS.keep [true] rfl).up (by omega),hM⟩
theorem zjm {n:Nat} {a0:Wheel} {a1:List Int} {a2:Bool} {r:Spot_×Int} (hM:zgD n a0 a1 a2=some (none,r)):zaR Try.prog 15 [.agg (Wheel.cells a0),.sl .no 1 (a1.map cI),fnB a2] (.tup [.v (.pointer none),.agg [.i r.1.left.c0,.i r.1.left.c1,.i r.1.left.c2,.i r.1.left.c3,.i r.1.place,.i r.1.credit],.i r.2]):=by
 refine zaz mixed Try.func15 rfl (by decide) Try.ntmps15 (by simp) ?pure fun H0 g hf=>?_
 case pure=>exact .tup _ (zab (.v _) (zab (.agg _ (zab (.v _) (zab (.v _) (zab (.v _) (zab (.v _) (zab (.v _) (zab (.v _) zaJ))))))) (zab (.v _) zaJ)))
 rw [zah]
 change wpA _ _ _ _ (Fr.of [(0,.agg (Wheel.cells a0)),(1,.sl .no 1 (a1.map cI)),(2,fnB a2)]) H0 g
 have hS:=St.start hf
 refine Sq ?_
 refine Rg 5 ?_
 refine zcg (v:=.agg (Wheel.cells a0)) (cs:=(Wheel.cells a0)) hS (by decide) rfl rfl (by omega) fun H hS=>?_
 refine zcg (v:=.sl .no 1 (a1.map cI)) (cs:=[.sl .no 1 (a1.map cI)]) hS (by decide) rfl rfl (by omega) fun H hS=>?_
 refine Oa (.v (.pointer none)) ?_
 refine za4 hS (by decide) zdW (by omega) fun H hS=>?_
 refine Oa (.i 0) ?_
 refine Ni ?_
 refine zaW (L':=[(g+3,.cells [.i 0,.i 0,.i 0,.i 0,.i 0,.i 0]),(g+1,.cells [.sl .no 1 (a1.map cI)])]) 2 3 hS rfl rfl rfl fun H hS=>?_
 refine zaW (L':=[(g+3,.cells [.i 0,.i 0,.i 0,.i 0,.i 0,.i 0])]) 1 4 hS rfl rfl rfl fun H hS=>?_
 refine Ws ?_
 refine Sq ?_
 refine Rg 1 ?_
 refine za4 hS (by decide) zdW (by omega) fun H hS=>?_
 refine Ni ?_
 refine Ws ?_
 refine Sq ?_
 refine Rg 9 ?_
 refine Olg (.agg (Wheel.cells a0)) zdq ?_
 refine zcL (first:=[]) (cap:=[.ep [.sl .no 1 (a1.map cI)],.ptr (g+5+0) 0]) (by decide) rfl rfl ?_
 obtain ⟨r1,hr1,hM⟩:=zaj hM
 have hndr1:=hS.nd_at (ns:=[0]) (M:=[(g+5+0,.cells [.i 0,.i 0,.i 0,.i 0,.i 0,.i 0])]) (M':=[(g+5+0,.cells (Spot_.cells r1.2))]) (.cons rfl .nil) (by decide)
 have hncr1:=hS.nd_at (ns:=[0]) (M:=[(g+5+0,.cells [.i 0,.i 0,.i 0,.i 0,.i 0,.i 0])]) (M':=[(g+5+0,.cells (Spot_.cells r1.2))]) (.cons rfl .nil) (by decide)
 refine zlV (bs:=[.agg (Wheel.cells a0),.fn (.func 26) [] [.ep [.sl .no 1 (a1.map cI)],.ptr (g+5+0) 0]]) (M:=[(g+5+0,.cells [.i 0,.i 0,.i 0,.i 0,.i 0,.i 0])]) (M':=[(g+5+0,.cells (Spot_.cells r1.2))]) (L':=[(g+5+0,.cells (Spot_.cells r1.2)),(g+3,.cells [.i 0,.i 0,.i 0,.i 0,.i 0,.i 0])]) [0] (.inl rfl) hS (by decide) rfl rfl ((zhD (Lo:=(fun (s:Spot_)=>[(g+5+0,.cells (Spot_.cells s))]))  (fun _ _=>(zd1 zfS)) (fun _=>hndr1) (fun s=>(ziC (zeA (zbK (.inl (.inl (.v _))) (zbK (.inl (.inl (.v _))) (zbK (.inl (.inl (.v _))) (zbK (.inl (.inl (.v _))) (zbK (.inl (.inl (.v _))) (zbK (.inl (.inl (.v _))) zhs)))))) ziB) zeW)) (aF:=(fun (x0:Wheel_) s=>zdi n x0 a1 s)) (fun s H hH=>(.fn _ _ _ zb2 (za0 (.ep _ (za0 (show Go.AM.Pure _ from .sl _ _ (zaA (fun x=>(zab (.v _) zaJ)))).inH zb2)) (za0 (znt hH 0 rfl) zb2)))) rfl (fun h=>zif (zhE (p1:=g+5+0)  hncr1 h)) hr1).le (.k (.k .nil))) (.cons rfl .nil) rfl (by omega) fun H hS=>?_
 refine Om (.tup [.agg (Wheel.cells r1.1.1.Wheel),.i r1.1.2]) ?_
 refine Ox (.agg (Wheel.cells r1.1.1.Wheel)) ?_
 refine Ox (.i r1.1.2) ?_
 refine za4 hS (by decide) zfk (by omega) fun H hS=>?_
 refine zaC (v:=.agg (Wheel.cells r1.1.1.Wheel)) (ns:=(Wheel.cells r1.1.1.Wheel)) (L':=[(g+5+1+6,.cells (Wheel.cells r1.1.1.Wheel)),(g+5+0,.cells (Spot_.cells r1.2)),(g+3,.cells [.i 0,.i 0,.i 0,.i 0,.i 0,.i 0])]) 0 hS rfl rfl .no rfl rfl zhT nlb rfl fun H hS=>?_
 refine Oa (.i r1.1.2) ?_
 refine Ni ?_
 refine zaW (L':=[(g+5+0,.cells (Spot_.cells r1.2)),(g+3,.cells [.i 0,.i 0,.i 0,.i 0,.i 0,.i 0])]) 0 10 hS rfl rfl rfl fun H hS=>?_
 refine Ws ?_
 refine Sq ?_
 refine Sq ?_
 refine Rg 2 ?_
 refine Om (.i r1.1.2) ?_
 refine Oi (.b (r1.1.2 != 0)) ?_
 refine Ni ?_
 refine Ws ?_
 rcases bft (r1.1.2 != 0) with hb2 | hb2
 ·replace hM:=ifT hM hb2
  refine Ct hb2 ?_
  refine Sq ?_
  refine Rg 5 ?_
  refine zbf (cs:=[.i 0,.i 0,.i 0,.i 0,.i 0,.i 0]) (by decide) zdW zsi rfl ?_
  refine Om (.i r1.1.2) ?_
  refine Oa (.v (.pointer none)) ?_
  refine zaC (v:=.agg [.i 0,.i 0,.i 0,.i 0,.i 0,.i 0]) (ns:=[.i 0,.i 0,.i 0,.i 0,.i 0,.i 0]) (L':=[(g+5+0,.cells (Spot_.cells r1.2)),(g+3,.cells [.i 0,.i 0,.i 0,.i 0,.i 0,.i 0])]) 1 hS rfl rfl .no rfl rfl zfI nlb rfl fun H hS=>?_
  refine Oa (.i r1.1.2) ?_
  refine Ni ?_
  replace hS:=hS.keep (L':=[(g+3,.cells [.i 0,.i 0,.i 0,.i 0,.i 0,.i 0])]) [false,true] rfl
  refine Ws ?_
  refine zaS ?_
  refine zao ?_
  refine zbe (x:=.tup [.v (.pointer none),.agg [.i 0,.i 0,.i 0,.i 0,.i 0,.i 0],.i r1.1.2]) (f:=fun r:Spot_×Int=>.tup [.v (.pointer none),.agg [.i r.1.left.c0,.i r.1.left.c1,.i r.1.left.c2,.i r.1.left.c3,.i r.1.place,.i r.1.credit],.i r.2]) (.inr rfl) ?_ (.refl _) (show ((⟨(⟨0,0,0,0⟩:Bag_),0,0⟩:Spot_),r1.1.2)=r from by injection hM with hM;exact (Prod.mk.inj hM).2) hS
  exact (zfR (zae (x:=.v (.pointer none)) rfl) (zdh (x:=.agg [.i 0,.i 0,.i 0,.i 0,.i 0,.i 0]) 0 hS rfl rfl (pg zc3)) (zae (x:=.i r1.1.2) rfl))
 ·replace hM:=ifF hM hb2
  refine Cf hb2 ?_
  refine zay ?_
  refine Ws ?_
  refine Sq ?_
  have hS0:=hS
  refine zc4 (n:=9) rfl (by kernel_rfl) ?_
  refine Olg (.agg (Wheel.cells r1.1.1.Wheel)) zd7 ?_
  refine Om (fnB a2) ?_
  refine znu (kv:=zaq) hS (by decide) zkb (by omega) fun H hS=>?_
  refine zbf (cs:=(zbL r1.1.1 a2 (g+5+1+9+2+2))) (by decide) znF zso rfl ?_
  refine zcg (v:=.agg (zbL r1.1.1 a2 (g+5+1+9+2+2))) (cs:=(zbL r1.1.1 a2 (g+5+1+9+2+2))) hS (by decide) rfl rfl (by omega) fun H hS=>?_
  refine zaK (v:=.agg (Spot_.cells r1.2)) 2 hS (by decide) rfl rfl (.st hS0 0 rfl (by omega)) (pg zc3) ?_
  refine Oa (.ptr (g+5+1+9+2+4) 0) ?_
  refine zaC (v:=.agg (Spot_.cells r1.2)) (ns:=(Spot_.cells r1.2)) (L':=[(g+5+1+9+2+4,.cells (zbL r1.1.1 a2 (g+5+1+9+2+2))),(g+5+1+9+2+2,.obj none (zag (mpv zaq ([]:List (Spot_×Int))))),(g+5+0,.cells (Spot_.cells r1.2)),(g+3,.cells (Spot_.cells r1.2))]) 3 hS rfl rfl (.st hS0 1 rfl (by omega)) rfl rfl zfI nlb rfl fun H hS=>?_
  refine Oa (.i 0) ?_
  refine Ni ?_
  refine zaW (L':=[(g+5+1+9+2+2,.obj none (zag (mpv zaq ([]:List (Spot_×Int))))),(g+5+0,.cells (Spot_.cells r1.2)),(g+3,.cells (Spot_.cells r1.2))]) 0 6 hS rfl rfl rfl fun H hS=>?_
  replace hS:=hS.keep (L':=[(g+5+1+9+2+2,.obj none (zag (mpv zaq ([]:List (Spot_×Int))))),(g+3,.cells (Spot_.cells r1.2))]) [true,false,true] rfl
  refine zg8 [(6,.ep (zbL r1.1.1 a2 (g+5+1+9+2+2))),(7,.ptr (g+3) 0),(8,.i 0)] (.k (.k (.k .nil))) ?_
  refine zaS ?_
  exact nomatch congrArg (fun o=>(o.map (fun x:Option Wheel_×Spot_×Int=>x.1.isSome)).getD false) hM
theorem zjn {n:Nat} {a0:Wheel} {a1:List Int} {a2:Bool} {w:Wheel_} {r:Spot_×Int} (hM:zgD n a0 a1 a2=some (some w,r)):zqH Try.prog 15 [.agg (Wheel.cells a0),.sl .no 1 (a1.map cI),fnB a2] (fun i=>.tup [.ep (zbL w a2 i),.agg [.i r.1.left.c0,.i r.1.left.c1,.i r.1.left.c2,.i r.1.left.c3,.i r.1.place,.i r.1.credit],.i r.2]) (zag (mpv zaq [])) 19:=by
 refine zoM mixed Try.func15 rfl (by decide) Try.ntmps15 (by simp) ?pure fun H0 g hf=>?_
 case pure=>exact fun g H h=>.tup _ (za0 (.ep _ (za0 (show Go.AM.Pure _ from .v _).inH (za0 (show Go.AM.Pure _ from .sl _ _ (zaA (fun x=>(zab (.v _) zaJ)))).inH (za0 (show Go.AM.Pure _ from .sl _ _ (zaA (fun x=>(zab (.v _) zaJ)))).inH (za0 (show Go.AM.Pure _ from zpJ _).inH (za0 (.mp _ _ _ h) zb2)))))) (za0 (show Go.AM.Pure _ from .agg _ (zab (.v _) (zab (.v _) (zab (.v _) (zab (.v _) (zab (.v _) (zab (.v _) zaJ))))))).inH (za0 (show Go.AM.Pure _ from .v _).inH zb2)))
 rw [zah]
 change wpA _ _ _ _ (Fr.of [(0,.agg (Wheel.cells a0)),(1,.sl .no 1 (a1.map cI)),(2,fnB a2)]) H0 g
 have hS:=St.start hf
 refine Sq ?_
 refine Rg 5 ?_
 refine zcg (v:=.agg (Wheel.cells a0)) (cs:=(Wheel.cells a0)) hS (by decide) rfl rfl (by omega) fun H hS=>?_
 refine zcg (v:=.sl .no 1 (a1.map cI)) (cs:=[.sl .no 1 (a1.map cI)]) hS (by decide) rfl rfl (by omega) fun H hS=>?_
 refine Oa (.v (.pointer none)) ?_
 refine za4 hS (by decide) zdW (by omega) fun H hS=>?_
 refine Oa (.i 0) ?_
 refine Ni ?_
 refine zaW (L':=[(g+3,.cells [.i 0,.i 0,.i 0,.i 0,.i 0,.i 0]),(g+1,.cells [.sl .no 1 (a1.map cI)])]) 2 3 hS rfl rfl rfl fun H hS=>?_
 refine zaW (L':=[(g+3,.cells [.i 0,.i 0,.i 0,.i 0,.i 0,.i 0])]) 1 4 hS rfl rfl rfl fun H hS=>?_
 refine Ws ?_
 refine Sq ?_
 refine Rg 1 ?_
 refine za4 hS (by decide) zdW (by omega) fun H hS=>?_
 refine Ni ?_
 refine Ws ?_
 refine Sq ?_
 refine Rg 9 ?_
 refine Olg (.agg (Wheel.cells a0)) zdq ?_
 refine zcL (first:=[]) (cap:=[.ep [.sl .no 1 (a1.map cI)],.ptr (g+5+0) 0]) (by decide) rfl rfl ?_
 obtain ⟨r1,hr1,hM⟩:=zaj hM
 have hndr1:=hS.nd_at (ns:=[0]) (M:=[(g+5+0,.cells [.i 0,.i 0,.i 0,.i 0,.i 0,.i 0])]) (M':=[(g+5+0,.cells (Spot_.cells r1.2))]) (.cons rfl .nil) (by decide)
 have hncr1:=hS.nd_at (ns:=[0]) (M:=[(g+5+0,.cells [.i 0,.i 0,.i 0,.i 0,.i 0,.i 0])]) (M':=[(g+5+0,.cells (Spot_.cells r1.2))]) (.cons rfl .nil) (by decide)
 refine zlV (bs:=[.agg (Wheel.cells a0),.fn (.func 26) [] [.ep [.sl .no 1 (a1.map cI)],.ptr (g+5+0) 0]]) (M:=[(g+5+0,.cells [.i 0,.i 0,.i 0,.i 0,.i 0,.i 0])]) (M':=[(g+5+0,.cells (Spot_.cells r1.2))]) (L':=[(g+5+0,.cells (Spot_.cells r1.2)),(g+3,.cells [.i 0,.i 0,.i 0,.i 0,.i 0,.i 0])]) [0] (.inl rfl) hS (by decide) rfl rfl ((zhD (Lo:=(fun (s:Spot_)=>[(g+5+0,.cells (Spot_.cells s))]))  (fun _ _=>(zd1 zfS)) (fun _=>hndr1) (fun s=>(ziC (zeA (zbK (.inl (.inl (.v _))) (zbK (.inl (.inl (.v _))) (zbK (.inl (.inl (.v _))) (zbK (.inl (.inl (.v _))) (zbK (.inl (.inl (.v _))) (zbK (.inl (.inl (.v _))) zhs)))))) ziB) zeW)) (aF:=(fun (x0:Wheel_) s=>zdi n x0 a1 s)) (fun s H hH=>(.fn _ _ _ zb2 (za0 (.ep _ (za0 (show Go.AM.Pure _ from .sl _ _ (zaA (fun x=>(zab (.v _) zaJ)))).inH zb2)) (za0 (znt hH 0 rfl) zb2)))) rfl (fun h=>zif (zhE (p1:=g+5+0)  hncr1 h)) hr1).le (.k (.k .nil))) (.cons rfl .nil) rfl (by omega) fun H hS=>?_
 refine Om (.tup [.agg (Wheel.cells r1.1.1.Wheel),.i r1.1.2]) ?_
 refine Ox (.agg (Wheel.cells r1.1.1.Wheel)) ?_
 refine Ox (.i r1.1.2) ?_
 refine za4 hS (by decide) zfk (by omega) fun H hS=>?_
 refine zaC (v:=.agg (Wheel.cells r1.1.1.Wheel)) (ns:=(Wheel.cells r1.1.1.Wheel)) (L':=[(g+5+1+6,.cells (Wheel.cells r1.1.1.Wheel)),(g+5+0,.cells (Spot_.cells r1.2)),(g+3,.cells [.i 0,.i 0,.i 0,.i 0,.i 0,.i 0])]) 0 hS rfl rfl .no rfl rfl zhT nlb rfl fun H hS=>?_
 refine Oa (.i r1.1.2) ?_
 refine Ni ?_
 refine zaW (L':=[(g+5+0,.cells (Spot_.cells r1.2)),(g+3,.cells [.i 0,.i 0,.i 0,.i 0,.i 0,.i 0])]) 0 10 hS rfl rfl rfl fun H hS=>?_
 refine Ws ?_
 refine Sq ?_
 refine Sq ?_
 refine Rg 2 ?_
 refine Om (.i r1.1.2) ?_
 refine Oi (.b (r1.1.2 != 0)) ?_
 refine Ni ?_
 refine Ws ?_
 rcases bft (r1.1.2 != 0) with hb2 | hb2
 ·replace hM:=ifT hM hb2
  refine Ct hb2 ?_
  refine Sq ?_
  refine Rg 5 ?_
  refine zbf (cs:=[.i 0,.i 0,.i 0,.i 0,.i 0,.i 0]) (by decide) zdW zsi rfl ?_
  refine Om (.i r1.1.2) ?_
  refine Oa (.v (.pointer none)) ?_
  refine zaC (v:=.agg [.i 0,.i 0,.i 0,.i 0,.i 0,.i 0]) (ns:=[.i 0,.i 0,.i 0,.i 0,.i 0,.i 0]) (L':=[(g+5+0,.cells (Spot_.cells r1.2)),(g+3,.cells [.i 0,.i 0,.i 0,.i 0,.i 0,.i 0])]) 1 hS rfl rfl .no rfl rfl zfI nlb rfl fun H hS=>?_
  refine Oa (.i r1.1.2) ?_
  refine Ni ?_
  replace hS:=hS.keep (L':=[(g+3,.cells [.i 0,.i 0,.i 0,.i 0,.i 0,.i 0])]) [false,true] rfl
  refine Ws ?_
  refine zaS ?_
  refine zao ?_
  exact nomatch congrArg (fun o=>(o.map (fun x:Option Wheel_×Spot_×Int=>x.1.isSome)).getD true) hM
 ·replace hM:=ifF hM hb2
  refine Cf hb2 ?_
  refine zay ?_
  refine Ws ?_
  refine Sq ?_
  have hS0:=hS
  refine zc4 (n:=9) rfl (by kernel_rfl) ?_
  refine Olg (.agg (Wheel.cells r1.1.1.Wheel)) zd7 ?_
  refine Om (fnB a2) ?_
  refine znu (kv:=zaq) hS (by decide) zkb (by omega) fun H hS=>?_
  refine zbf (cs:=(zbL r1.1.1 a2 (g+5+1+9+2+2))) (by decide) znF zso rfl ?_
  refine zcg (v:=.agg (zbL r1.1.1 a2 (g+5+1+9+2+2))) (cs:=(zbL r1.1.1 a2 (g+5+1+9+2+2))) hS (by decide) rfl rfl (by omega) fun H hS=>?_
  refine zaK (v:=.agg (Spot_.cells r1.2)) 2 hS (by decide) rfl rfl (.st hS0 0 rfl (by omega)) (pg zc3) ?_
  refine Oa (.ptr (g+5+1+9+2+4) 0) ?_
  refine zaC (v:=.agg (Spot_.cells r1.2)) (ns:=(Spot_.cells r1.2)) (L':=[(g+5+1+9+2+4,.cells (zbL r1.1.1 a2 (g+5+1+9+2+2))),(g+5+1+9+2+2,.obj none (zag (mpv zaq ([]:List (Spot_×Int))))),(g+5+0,.cells (Spot_.cells r1.2)),(g+3,.cells (Spot_.cells r1.2))]) 3 hS rfl rfl (.st hS0 1 rfl (by omega)) rfl rfl zfI nlb rfl fun H hS=>?_
  refine Oa (.i 0) ?_
  refine Ni ?_
  refine zaW (L':=[(g+5+1+9+2+2,.obj none (zag (mpv zaq ([]:List (Spot_×Int))))),(g+5+0,.cells (Spot_.cells r1.2)),(g+3,.cells (Spot_.cells r1.2))]) 0 6 hS rfl rfl rfl fun H hS=>?_
  replace hS:=hS.keep (L':=[(g+5+1+9+2+2,.obj none (zag (mpv zaq ([]:List (Spot_×Int))))),(g+3,.cells (Spot_.cells r1.2))]) [true,false,true] rfl
  refine Ws ?_
  refine zaS ?_
  injection hM with hM
  injection hM with hm1 hm2
  injection hm1 with hm1
  subst hm1 hm2
  exact zve (x:=.tup [.ep (zbL r1.1.1 a2 (g+5+1+9+2+2)),.agg (Spot_.cells r1.2),.i 0]) (mk:=fun i=>.tup [.ep (zbL r1.1.1 a2 i),.agg (Spot_.cells r1.2),.i 0]) 0 (.inr rfl) (zfR (zae (x:=.ep (zbL r1.1.1 a2 (g+5+1+9+2+2))) rfl) (zdh (x:=.agg (Spot_.cells r1.2)) 1 hS rfl rfl (pg zc3)) (zae (x:=.i 0) rfl)) (.refl _) hS rfl rfl (by omega)
theorem zgk {n:Nat} {a0:Wheel_} {a1:Int} {a2:Int} {r:Int×Int} (hM:zds n a0 a1 a2=some r):zaR Try.prog 49 [.agg (Wheel.cells a0.Wheel),.i a1,.i a2] (.tup [.i r.1,.i r.2]):=by
 refine zaz mixed Try.func49 rfl (by decide) Try.ntmps49 (by simp) ?pure fun H0 g hf=>?_
 case pure=>exact .tup _ (zab (.v _) (zab (.v _) zaJ))
 rw [zah]
 change wpA _ _ _ _ (Fr.of [(0,.agg (Wheel.cells a0.Wheel)),(1,.i a1),(2,.i a2)]) H0 g
 have hS:=St.start hf
 refine Sq ?_
 refine Rg 3 ?_
 refine zcg (v:=.agg (Wheel.cells a0.Wheel)) (cs:=(Wheel.cells a0.Wheel)) hS (by decide) rfl rfl (by omega) fun H hS=>?_
 refine Oa (.i 0) ?_
 refine Oa (.i 0) ?_
 refine Ni ?_
 refine zaW (L':=[]) 0 3 hS rfl rfl rfl fun H hS=>?_
 refine Ws ?_
 refine Sq ?_
 refine Rg 4 ?_
 refine Om (.i a1) ?_
 refine Om (.i a2) ?_
 refine Oi (.i (w64 (a1+a2))) ?_
 refine Oa (.i (w64 (a1+a2))) ?_
 refine Ni ?_
 refine Ws ?_
 refine zaY (J:=Int) (fun j=>[(3,.ep (Wheel.cells a0.Wheel)),(7,.i j),(8,.i (w64 (a1+a2)))]) (fun j H' g'=>St (·<g) H0 [] H' g'/\zdj a0 a1 a2 j=some r) ?_ ?_
 ·rintro v1 H g1 ⟨hS,hM⟩
  change wpA _ _ _ _ (Fr.of [(3,.ep (Wheel.cells a0.Wheel)),(7,.i v1),(8,.i (w64 (a1+a2)))]) _ _
  replace hS:St (·<g) H0 [] H g1:=hS
  replace hM:zdj a0 a1 a2 v1=some r:=hM
  refine Sq ?_
  refine Rg 8 ?_
  refine Om (.i (w64 (a1+a2))) ?_
  refine Of ((Wheel.cells a0.Wheel)) zda ?_
  refine Of ((Wheel.cells a0.Wheel)) zef ?_
  refine Olp (.i a0.Wheel.Round) zaf zal ?_
  obtain ⟨q2,hq2,hM⟩:=zaj hM
  refine zmp (by decide) rfl rfl (zuZ hq2) ?_
  refine Om (.i v1) ?_
  refine Oa (.i q2) ?_
  refine Oa (.i v1) ?_
  refine Ni ?_
  refine Ws ?_
  refine zaS ?_
  refine zbe (x:=.tup [.i q2,.i v1]) (f:=fun r=>.tup [.i r.1,.i r.2]) (.inr rfl) ?_ (.refl _) (Option.some.inj hM) hS
  exact (zdC (zae (x:=.i q2) rfl) (zae (x:=.i v1) rfl))
 ·refine Sq ?_
  refine Rg 5 ?_
  refine Of ((Wheel.cells a0.Wheel)) zda ?_
  refine Of ((Wheel.cells a0.Wheel)) zhz ?_
  refine Olp (.sl .no 1 (a0.Wheel.Notches.map cI)) zaI zaU ?_
  refine zb9 (n:=a0.Wheel.Notches.length) (by decide) rfl (List.length_map _) zaQ ?_
  refine Om (.i 0) ?_
  refine Ni ?_
  refine Ws ?_
  refine zaB ?_
  refine zco (V:=Int×Int) (fun v=>[(1,.i a1),(3,.ep (Wheel.cells a0.Wheel)),(7,.i v.1),(8,.i (w64 (a1+a2))),(16,.sl .no 1 (a0.Wheel.Notches.map cI)),(17,.i (a0.Wheel.Notches.length:Int)),(18,.i v.2)]) (fun v m2 H' g'=>St (·<g) H0 [] H' g'/\zbh a0 a1 a2 m2 v.1 v.2=some r) (n:=n) (0,0) (.k (.k (.k (.k (.k (.k (.k .nil))))))) ⟨(hS.keep [] rfl).up (by omega),hM⟩ ?_
  rintro ⟨v3,v4⟩ m2 H g2 ⟨hS,hM⟩
  obtain _ | m2:=m2
  ·exact nomatch (show none=some _ from hM)
  change wpA _ _ _ _ (Fr.of [(1,.i a1),(3,.ep (Wheel.cells a0.Wheel)),(7,.i v3),(8,.i (w64 (a1+a2))),(16,.sl .no 1 (a0.Wheel.Notches.map cI)),(17,.i (a0.Wheel.Notches.length:Int)),(18,.i v4)]) _ _
  replace hS:St (·<g) H0 [] H g2:=hS
  replace hM:zcQ a0 a1 a2 (zbh a0 a1 a2 m2) v3 v4=some r:=hM
  refine Sq ?_
  refine Rg 1 ?_
  refine Oi (.b (decide (v4<(a0.Wheel.Notches.length:Int)))) ?_
  refine Ni ?_
  refine Ws ?_
  refine Sq ?_
  rcases bft (decide (v4<(a0.Wheel.Notches.length:Int))) with hb5 | hb5
  ·replace hM:=ifT hM hb5
   refine Ct hb5 ?_
   refine zay ?_
   refine Ws ?_
   refine Sq ?_
   refine zaB ?_
   refine Sq ?_
   refine Rg 3 ?_
   obtain ⟨x6,hx6,hM⟩:=zaj hM
   refine za8 (xs:=a0.Wheel.Notches) (f:=cI) (z:=v4) (u:=x6) (by decide) rfl rfl zaP hx6 ?_
   refine Olp (.i x6) zaf zal ?_
   refine Oa (.i x6) ?_
   refine Ni ?_
   refine Ws ?_
   have hS0:=hS
   refine zc4 (n:=26) rfl (by kernel_rfl) ?_
   refine Om (.i v3) ?_
   refine Om (.i (w64 (a1+a2))) ?_
   refine Om (.i x6) ?_
   refine Oi (.i (w64 ((w64 (a1+a2))-x6))) ?_
   refine Of ((Wheel.cells a0.Wheel)) zda ?_
   refine Of ((Wheel.cells a0.Wheel)) zef ?_
   refine Olp (.i a0.Wheel.Round) zaf zal ?_
   refine Oi (.i (w64 ((w64 ((w64 (a1+a2))-x6))+a0.Wheel.Round))) ?_
   refine Of ((Wheel.cells a0.Wheel)) zda ?_
   refine Of ((Wheel.cells a0.Wheel)) zef ?_
   refine Olp (.i a0.Wheel.Round) zaf zal ?_
   obtain ⟨q7,hq7,hM⟩:=zaj hM
   refine zmp (by decide) rfl rfl (zoD hq7) ?_
   refine Om (.i a1) ?_
   refine Om (.i x6) ?_
   refine Oi (.i (w64 (a1-x6))) ?_
   refine Of ((Wheel.cells a0.Wheel)) zda ?_
   refine Of ((Wheel.cells a0.Wheel)) zef ?_
   refine Olp (.i a0.Wheel.Round) zaf zal ?_
   refine Oi (.i (w64 ((w64 (a1-x6))+a0.Wheel.Round))) ?_
   refine Of ((Wheel.cells a0.Wheel)) zda ?_
   refine Of ((Wheel.cells a0.Wheel)) zef ?_
   refine Olp (.i a0.Wheel.Round) zaf zal ?_
   obtain ⟨q8,hq8,hM⟩:=zaj hM
   refine zmp (by decide) rfl rfl (zoD hq8) ?_
   refine Oi (.i (w64 (q7-q8))) ?_
   refine Oi (.i (w64 (v3+(w64 (q7-q8))))) ?_
   refine Oa (.i (w64 (v3+(w64 (q7-q8))))) ?_
   refine Ni ?_
   refine zas ?_
   refine Ws ?_
   refine Rg 2 ?_
   refine Oi (.i (w64 (v4+1))) ?_
   refine Om (.i (w64 (v4+1))) ?_
   refine Ni ?_
   exact zbo (w64 (v3+(w64 (q7-q8))),w64 (v4+1)) (Nat.lt_succ_self _) (.k (.k (.k (.k (.k (.k (.k .nil))))))) ⟨(hS.keep [] rfl).up (by omega),hM⟩
  ·replace hM:=ifF hM hb5
   refine Cf hb5 ?_
   refine zb1 ?_
   refine zav ?_
   refine zau ?_
   refine zaD ?_
   exact zai v3 (.k (.k (.k .nil))) ⟨(hS.keep [] rfl).up (by omega),hM⟩
theorem zf0 {n:Nat} {a0:Wheel_} {a1:Spot_} {a2:Int} {a3:Bool} {r:Spot_×Int} (hM:zca n a0 a1 a2 a3=some r):zaR Try.prog 39 [.agg (Wheel.cells a0.Wheel),.agg (Spot_.cells a1),.i a2,.b a3] (.tup [.agg [.i r.1.left.c0,.i r.1.left.c1,.i r.1.left.c2,.i r.1.left.c3,.i r.1.place,.i r.1.credit],.i r.2]):=by
 refine zaz mixed Try.func39 rfl (by decide) Try.ntmps39 (by simp) ?pure fun H0 g hf=>?_
 case pure=>exact .tup _ (zab (.agg _ (zab (.v _) (zab (.v _) (zab (.v _) (zab (.v _) (zab (.v _) (zab (.v _) zaJ))))))) (zab (.v _) zaJ))
 rw [zah]
 change wpA _ _ _ _ (Fr.of [(0,.agg (Wheel.cells a0.Wheel)),(1,.agg (Spot_.cells a1)),(2,.i a2),(3,.b a3)]) H0 g
 have hS:=St.start hf
 refine Sq ?_
 refine Rg 4 ?_
 refine zcg (v:=.agg (Wheel.cells a0.Wheel)) (cs:=(Wheel.cells a0.Wheel)) hS (by decide) rfl rfl (by omega) fun H hS=>?_
 refine zcg (v:=.agg (Spot_.cells a1)) (cs:=(Spot_.cells a1)) hS (by decide) rfl rfl (by omega) fun H hS=>?_
 refine za4 hS (by decide) zdW (by omega) fun H hS=>?_
 refine Oa (.i 0) ?_
 refine Ni ?_
 refine zaW (L':=[(g+2,.cells [.i 0,.i 0,.i 0,.i 0,.i 0,.i 0]),(g+1,.cells (Spot_.cells a1))]) 2 4 hS rfl rfl rfl fun H hS=>?_
 refine Ws ?_
 refine zaY (J:=Int×Int×Int×Int×Int×Int) (fun j=>[(2,.i a2),(4,.ep (Wheel.cells a0.Wheel)),(5,.ptr (g+1) 0),(8,.ptr (g+2) 0)]) (fun j H' g'=>St (·<g) H0 [(g+2,.cells [.i 0,.i 0,.i 0,.i 0,.i 0,.i 0]),(g+1,.cells [.i j.1,.i j.2.1,.i j.2.2.1,.i j.2.2.2.1,.i j.2.2.2.2.1,.i j.2.2.2.2.2])] H' g'/\zbp n a0 a2 j.1 j.2.1 j.2.2.1 j.2.2.2.1 j.2.2.2.2.1 j.2.2.2.2.2=some r) ?_ ?_
 ·rintro ⟨v1,v2,v3,v4,v5,v6⟩ H g1 ⟨hS,hM⟩
  change wpA _ _ _ _ (Fr.of [(2,.i a2),(4,.ep (Wheel.cells a0.Wheel)),(5,.ptr (g+1) 0),(8,.ptr (g+2) 0)]) _ _
  replace hS:St (·<g) H0 [(g+2,.cells [.i 0,.i 0,.i 0,.i 0,.i 0,.i 0]),(g+1,.cells [.i v1,.i v2,.i v3,.i v4,.i v5,.i v6])] H g1:=hS
  replace hM:zbp n a0 a2 v1 v2 v3 v4 v5 v6=some r:=hM
  refine Sq ?_
  have hS0:=hS
  refine zc4 (n:=15) rfl (by kernel_rfl) ?_
  refine Olg (.agg (Wheel.cells a0.Wheel)) zd7 ?_
  refine zap (by decide) zi0 rfl ?_
  refine zaK (v:=.i v5) 1 hS (by decide) rfl rfl (.st hS0 1 rfl (by omega)) (po zaf zal) ?_
  refine Of ((Wheel.cells a0.Wheel)) zda ?_
  refine Of ((Wheel.cells a0.Wheel)) zcE ?_
  refine Olp (.sl .no 1 (a0.Wheel.Coins.map cI)) zaI zaU ?_
  refine Om (.i a2) ?_
  obtain ⟨x7,hx7,hM⟩:=zaj hM
  refine za8 (xs:=a0.Wheel.Coins) (f:=cI) (z:=a2) (u:=x7) (by decide) rfl rfl zaP hx7 ?_
  refine Olp (.i x7) zaf zal ?_
  obtain ⟨r8,hr8,hM⟩:=zaj hM
  refine zaO (bs:=[.agg (Wheel.cells a0.Wheel),.i v5,.i x7]) (by decide) rfl rfl ((zgk hr8).le (.k (.k (.k .nil)))) ?_
  refine Om (.tup [.i r8.1,.i r8.2]) ?_
  refine Ox (.i r8.1) ?_
  refine Ox (.i r8.2) ?_
  refine Oa (.i r8.1) ?_
  refine Oa (.i r8.2) ?_
  refine Ni ?_
  refine Ws ?_
  refine Sq ?_
  refine Rg 8 ?_
  refine Om (.i a2) ?_
  refine zap (by decide) zhC rfl ?_
  obtain ⟨x9,hx9,hM⟩:=zaj hM
  refine ze5 (z:=a2) (by decide) rfl rfl zj9 (zeO hx9) ?_
  refine zkE (xs:=([v1,v2,v3,v4]:List Int)) (z:=a2) (u:=x9) (off:=0+0) 1 hS (by decide) rfl rfl .no rfl hx9 zaf zal ?_
  refine Oi (.i (w64 (x9-1))) ?_
  refine zap (by decide) zhC rfl ?_
  obtain ⟨x10,hx10,hM⟩:=zaj hM
  refine ze5 (z:=a2) (by decide) rfl rfl zj9 (zeO hx10) ?_
  obtain ⟨l11,hl11,hM⟩:=zaj hM
  refine ziF (xs:=([v1,v2,v3,v4]:List Int)) (u:=l11) (z:=a2) (v:=(w64 (x9-1))) (off:=0+0) (cs':=[.i (l11.getD 0 0),.i (l11.getD 1 0),.i (l11.getD 2 0),.i (l11.getD 3 0),.i v5,.i v6]) (L':=[(g+2,.cells [.i 0,.i 0,.i 0,.i 0,.i 0,.i 0]),(g+1,.cells [.i (l11.getD 0 0),.i (l11.getD 1 0),.i (l11.getD 2 0),.i (l11.getD 3 0),.i v5,.i v6])]) 1 hS rfl rfl .no rfl rfl hl11 zdV rfl rfl fun H hS=>?_
  refine Ni ?_
  refine Ws ?_
  refine Sq ?_
  refine Rg 9 ?_
  refine Om (.i r8.1) ?_
  refine zap (by decide) zfZ rfl ?_
  refine zaK (v:=.i v6) 1 hS (by decide) rfl rfl .no (po zaf zal) ?_
  refine Om (.i r8.2) ?_
  refine Oi (.i (w64 (v6+r8.2))) ?_
  refine zap (by decide) zi0 rfl ?_
  refine zaC (v:=.i r8.1) (ns:=[.i r8.1]) (L':=[(g+2,.cells [.i 0,.i 0,.i 0,.i 0,.i 0,.i 0]),(g+1,.cells [.i (l11.getD 0 0),.i (l11.getD 1 0),.i (l11.getD 2 0),.i (l11.getD 3 0),.i r8.1,.i v6])]) 1 hS rfl rfl .no rfl rfl zdV nlb rfl fun H hS=>?_
  refine zap (by decide) zfZ rfl ?_
  refine zaC (v:=.i (w64 (v6+r8.2))) (ns:=[.i (w64 (v6+r8.2))]) (L':=[(g+2,.cells [.i 0,.i 0,.i 0,.i 0,.i 0,.i 0]),(g+1,.cells [.i (l11.getD 0 0),.i (l11.getD 1 0),.i (l11.getD 2 0),.i (l11.getD 3 0),.i r8.1,.i (w64 (v6+r8.2))])]) 1 hS rfl rfl .no rfl rfl zdV nlb rfl fun H hS=>?_
  refine Ni ?_
  refine Ws ?_
  refine Sq ?_
  refine Rg 4 ?_
  refine zaK (v:=.agg [.i (l11.getD 0 0),.i (l11.getD 1 0),.i (l11.getD 2 0),.i (l11.getD 3 0),.i r8.1,.i (w64 (v6+r8.2))]) 1 hS (by decide) rfl rfl .no (pg zc3) ?_
  refine Om (.i r8.2) ?_
  refine zaC (v:=.agg [.i (l11.getD 0 0),.i (l11.getD 1 0),.i (l11.getD 2 0),.i (l11.getD 3 0),.i r8.1,.i (w64 (v6+r8.2))]) (ns:=[.i (l11.getD 0 0),.i (l11.getD 1 0),.i (l11.getD 2 0),.i (l11.getD 3 0),.i r8.1,.i (w64 (v6+r8.2))]) (L':=[(g+2,.cells [.i (l11.getD 0 0),.i (l11.getD 1 0),.i (l11.getD 2 0),.i (l11.getD 3 0),.i r8.1,.i (w64 (v6+r8.2))]),(g+1,.cells [.i (l11.getD 0 0),.i (l11.getD 1 0),.i (l11.getD 2 0),.i (l11.getD 3 0),.i r8.1,.i (w64 (v6+r8.2))])]) 0 hS rfl rfl .no rfl rfl zfI nlb rfl fun H hS=>?_
  refine Oa (.i r8.2) ?_
  refine Ni ?_
  replace hS:=hS.keep (L':=[(g+2,.cells [.i (l11.getD 0 0),.i (l11.getD 1 0),.i (l11.getD 2 0),.i (l11.getD 3 0),.i r8.1,.i (w64 (v6+r8.2))])]) [true,false] rfl
  refine Ws ?_
  refine zaS ?_
  refine zbe (x:=.tup [.agg [.i (l11.getD 0 0),.i (l11.getD 1 0),.i (l11.getD 2 0),.i (l11.getD 3 0),.i r8.1,.i (w64 (v6+r8.2))],.i r8.2]) (f:=fun r=>.tup [.agg [.i r.1.left.c0,.i r.1.left.c1,.i r.1.left.c2,.i r.1.left.c3,.i r.1.place,.i r.1.credit],.i r.2]) (.inr rfl) ?_ (.refl _) (Option.some.inj hM) hS
  exact (zdC (zdh (x:=.agg [.i (l11.getD 0 0),.i (l11.getD 1 0),.i (l11.getD 2 0),.i (l11.getD 3 0),.i r8.1,.i (w64 (v6+r8.2))]) 0 hS rfl rfl (pg zc3)) (zae (x:=.i r8.2) rfl))
 ·refine Sq ?_
  refine Rg 1 ?_
  refine Om (.b a3) ?_
  refine Ni ?_
  refine Ws ?_
  rcases bft a3 with hb12 | hb12
  ·replace hM:=ifT hM hb12
   refine Ct hb12 ?_
   refine Rg 7 ?_
   refine zap (by decide) zfZ rfl ?_
   refine zaK (v:=.i a1.credit) 1 hS (by decide) rfl rfl .no (po zaf zal) ?_
   refine Oi (.i (w64 (a1.credit-1))) ?_
   refine zap (by decide) zi0 rfl ?_
   refine zaC (v:=.i 0) (ns:=[.i 0]) (L':=[(g+2,.cells [.i 0,.i 0,.i 0,.i 0,.i 0,.i 0]),(g+1,.cells [.i a1.left.c0,.i a1.left.c1,.i a1.left.c2,.i a1.left.c3,.i 0,.i a1.credit])]) 1 hS rfl rfl .no rfl rfl zdV nlb rfl fun H hS=>?_
   refine zap (by decide) zfZ rfl ?_
   refine zaC (v:=.i (w64 (a1.credit-1))) (ns:=[.i (w64 (a1.credit-1))]) (L':=[(g+2,.cells [.i 0,.i 0,.i 0,.i 0,.i 0,.i 0]),(g+1,.cells [.i a1.left.c0,.i a1.left.c1,.i a1.left.c2,.i a1.left.c3,.i 0,.i (w64 (a1.credit-1))])]) 1 hS rfl rfl .no rfl rfl zdV nlb rfl fun H hS=>?_
   refine Ni ?_
   exact zai (a1.left.c0,a1.left.c1,a1.left.c2,a1.left.c3,0,w64 (a1.credit-1)) (.k (.k (.k (.k .nil)))) ⟨(hS.keep [true,true] rfl).up (by omega),hM⟩
  ·replace hM:=ifF hM hb12
   refine Cf hb12 ?_
   refine zay ?_
   exact zai (a1.left.c0,a1.left.c1,a1.left.c2,a1.left.c3,a1.place,a1.credit) (.k (.k (.k (.k .nil)))) ⟨(hS.keep [true,true] rfl).up (by omega),hM⟩
theorem zii {S:Type} {Lo:S->BL} (hk:∀s s',zg7 (Lo s) (Lo s')) {m0:Nat} (hnd:∀s,(ids (Lo s)).Nodup) (hin:∀s,InB In (Lo s)) {aF:(List Int)->Spot_->Int->S->Option (Bool×S)} {f0:AV} (hF:∀s H,Has H (Lo s)->In H f0) (h0:cellsOf f0=some [f0]) (hf:∀{x0:List Int} {x1:Spot_} {x2:Int} {s:S} {r:Bool×S},aF x0 x1 x2 s=some r->zlo Try.prog f0 [.sl .no 1 (x0.map cI),.agg (Spot_.cells x1),.i x2] (Lo s) (.b r.1) (Lo r.2)) {n:Nat} {a0:Wheel_×Bool} {a1:Spot_} {st:S} {r:Unit×S} (hM:zeZ n aF a0 a1 st=some r):zhc Try.prog 28 [.ep (zbL a0.1 a0.2 m0),.agg (Spot_.cells a1),f0] (Lo st) (.tup []) (Lo r.2):=by
 have hnd0:∀s,(ids (Lo s)).Nodup:=fun s=>hnd s
 refine zbE mixed Try.func28 rfl (by decide) Try.ntmps28 (by simp) (hk _ _) (hnd st) ?pure ?cells fun H0 g hf_ hp=>?_
 case pure=>exact fun H _=>(show Go.AM.Pure _ from .tup _ zaJ).inH
 case cells=>exact hin _
 rw [zah]
 change wpA _ _ _ _ (Fr.of [(0,.ep (zbL a0.1 a0.2 m0)),(1,.agg (Spot_.cells a1)),(2,f0)]) H0 g
 have hS:=St.startH (L:=([]++Lo st)) hf_ (hnd st) hp
 replace hS:St (fun i=>i<g/\i∉ids (Lo st)) H0 ([]++Lo st) H0 g:=hS
 refine Sq ?_
 refine Rg 1 ?_
 refine zcg (v:=.agg (Spot_.cells a1)) (cs:=(Spot_.cells a1)) hS (by decide) rfl rfl (by omega) fun H hS=>?_
 refine Ni ?_
 refine zaW (L':=([]++Lo st)) 0 4 hS rfl rfl rfl fun H hS=>?_
 refine Ws ?_
 refine Sq ?_
 refine Rg 8 ?_
 refine Om (.ep (zbL a0.1 a0.2 m0)) ?_
 refine zlT (by decide) rfl ?_
 refine Of ((zbL a0.1 a0.2 m0)) zk3 ?_
 refine Of ((zbL a0.1 a0.2 m0)) zda ?_
 refine Of ((zbL a0.1 a0.2 m0)) zcE ?_
 refine Olp (.sl .no 1 (a0.1.Wheel.Coins.map cI)) zaI zaU ?_
 refine zb9 (n:=a0.1.Wheel.Coins.length) (by decide) rfl (List.length_map _) zaQ ?_
 refine Om (.i 0) ?_
 refine Ni ?_
 refine Ws ?_
 refine zaB ?_
 refine zco (V:=Int×Int×Int×Int×Int×S) (fun v=>[(0,.ep (zbL a0.1 a0.2 m0)),(2,f0),(4,.ep [.i v.1,.i v.2.1,.i v.2.2.1,.i v.2.2.2.1,.i a1.place,.i a1.credit]),(17,.i (a0.1.Wheel.Coins.length:Int)),(18,.i v.2.2.2.2.1)]) (fun v m2 H' g'=>St (fun i=>i<g/\i∉ids (Lo st)) H0 ([]++Lo v.2.2.2.2.2) H' g'/\zaN n a0 a1 aF m2 v.1 v.2.1 v.2.2.1 v.2.2.2.1 v.2.2.2.2.1 v.2.2.2.2.2=some r) (n:=n) (a1.left.c0,a1.left.c1,a1.left.c2,a1.left.c3,0,st) (.k (.k (.k (.k (.k .nil))))) ⟨(hS.keep [] rfl).up (by omega),hM⟩ ?_
 rintro ⟨v2,v3,v4,v5,v6,v7⟩ m2 H g2 ⟨hS,hM⟩
 obtain _ | m2:=m2
 ·exact nomatch (show none=some _ from hM)
 change wpA _ _ _ _ (Fr.of [(0,.ep (zbL a0.1 a0.2 m0)),(2,f0),(4,.ep [.i v2,.i v3,.i v4,.i v5,.i a1.place,.i a1.credit]),(17,.i (a0.1.Wheel.Coins.length:Int)),(18,.i v6)]) _ _
 replace hS:St (fun i=>i<g/\i∉ids (Lo st)) H0 ([]++Lo v7) H g2:=hS
 replace hM:zcG n a0 a1 aF (zaN n a0 a1 aF m2) v2 v3 v4 v5 v6 v7=some r:=hM
 refine Sq ?_
 refine Rg 1 ?_
 refine Oi (.b (decide (v6<(a0.1.Wheel.Coins.length:Int)))) ?_
 refine Ni ?_
 refine Ws ?_
 refine Sq ?_
 rcases bft (decide (v6<(a0.1.Wheel.Coins.length:Int))) with hb8 | hb8
 ·replace hM:=ifT hM hb8
  refine Ct hb8 ?_
  refine zay ?_
  refine Ws ?_
  refine zaY (J:=S) (fun j=>[(0,.ep (zbL a0.1 a0.2 m0)),(2,f0),(4,.ep [.i v2,.i v3,.i v4,.i v5,.i a1.place,.i a1.credit]),(17,.i (a0.1.Wheel.Coins.length:Int)),(18,.i v6)]) (fun j H' g'=>St (fun i=>i<g/\i∉ids (Lo st)) H0 ([]++Lo j) H' g'/\zbb (zaN n a0 a1 aF m2) v2 v3 v4 v5 v6 j=some r) ?_ ?_
  ·rintro v9 H g3 ⟨hS,hM⟩
   change wpA _ _ _ _ (Fr.of [(0,.ep (zbL a0.1 a0.2 m0)),(2,f0),(4,.ep [.i v2,.i v3,.i v4,.i v5,.i a1.place,.i a1.credit]),(17,.i (a0.1.Wheel.Coins.length:Int)),(18,.i v6)]) _ _
   replace hS:St (fun i=>i<g/\i∉ids (Lo st)) H0 ([]++Lo v9) H g3:=hS
   replace hM:zbb (zaN n a0 a1 aF m2) v2 v3 v4 v5 v6 v9=some r:=hM
   refine Rg 2 ?_
   refine Oi (.i (w64 (v6+1))) ?_
   refine Om (.i (w64 (v6+1))) ?_
   refine Ni ?_
   exact zbo (v2,v3,v4,v5,w64 (v6+1),v9) (Nat.lt_succ_self _) (.k (.k (.k (.k (.k .nil))))) ⟨(hS.keep [] rfl).up (by omega),hM⟩
  ·refine zaB ?_
   refine Sq ?_
   refine Rg 2 ?_
   refine Om (.i v6) ?_
   refine Oa (.i v6) ?_
   refine Ni ?_
   refine Ws ?_
   refine Sq ?_
   refine Sq ?_
   refine Rg 5 ?_
   refine Om (.i v6) ?_
   refine Of ([.i v2,.i v3,.i v4,.i v5,.i a1.place,.i a1.credit]) zhC ?_
   obtain ⟨x10,hx10,hM⟩:=zaj hM
   refine zrU (cs:=[.i v2,.i v3,.i v4,.i v5,.i a1.place,.i a1.credit]) (z:=v6) (by decide) rfl rfl zj9 (zeO hx10) ?_
   refine zoE (v:=.i x10) (by decide) rfl (zrV (xs:=([v2,v3,v4,v5]:List Int)) zaf zal rfl hx10) ?_
   refine Oi (.b (x10==0)) ?_
   refine Ni ?_
   refine Ws ?_
   rcases bft (x10==0) with hb11 | hb11
   ·replace hM:=ifT hM hb11
    refine Ct hb11 ?_
    refine zb1 ?_
    refine zav ?_
    refine zaD ?_
    exact zai v7 (.k (.k (.k (.k (.k .nil))))) ⟨(hS.keep [] rfl).up (by omega),hM⟩
   ·replace hM:=ifF hM hb11
    refine Cf hb11 ?_
    refine zay ?_
    refine Ws ?_
    refine Sq ?_
    refine Sq ?_
    have hS0:=hS
    refine zc4 (n:=13) rfl (by kernel_rfl) ?_
    refine Om (.ep (zbL a0.1 a0.2 m0)) ?_
    refine zlT (by decide) rfl ?_
    refine Of ((zbL a0.1 a0.2 m0)) zk3 ?_
    refine Olg (.agg (Wheel.cells a0.1.Wheel)) zd7 ?_
    refine Olg (.agg [.i v2,.i v3,.i v4,.i v5,.i a1.place,.i a1.credit]) zc3 ?_
    refine Om (.i v6) ?_
    obtain ⟨r12,hr12,hM⟩:=zaj hM
    refine zaO (bs:=[.agg (Wheel.cells a0.1.Wheel),.agg [.i v2,.i v3,.i v4,.i v5,.i a1.place,.i a1.credit],.i v6,.b false]) (by decide) rfl rfl ((zf0 hr12).le (.k (.k (.k (.k .nil))))) ?_
    refine Om (.tup [.agg (Spot_.cells r12.1),.i r12.2]) ?_
    refine Ox (.agg (Spot_.cells r12.1)) ?_
    refine Ox (.i r12.2) ?_
    refine za4 hS (by decide) zdW (by omega) fun H hS=>?_
    refine zaC (v:=.agg (Spot_.cells r12.1)) (ns:=(Spot_.cells r12.1)) (L':=([(g2+1+2+5+10,.cells (Spot_.cells r12.1))]++Lo v7)) 0 hS rfl rfl (.behind (by kernel_rfl)) rfl rfl zfI nlb rfl fun H hS=>?_
    refine Oa (.i r12.2) ?_
    refine Ni ?_
    refine zaW (L':=([]++Lo v7)) 0 7 hS rfl rfl rfl fun H hS=>?_
    refine Ws ?_
    refine Sq ?_
    refine Rg 7 ?_
    refine Om (f0) ?_
    refine Om (.i v6) ?_
    refine zbg (es:=[[.i v6]]) hS (by decide) zaP zdp rfl zcZ rfl (by decide) (by omega) fun H hS=>?_
    refine Olg (.agg (Spot_.cells r12.1)) zc3 ?_
    refine Om (.i r12.2) ?_
    obtain ⟨r13,hr13,hM⟩:=zaj hM
    replace hS:St (fun i=>i<g/\i∉ids (Lo st)) H0 ([(g2+1+2+5+13+2,.row 3 1)]++Lo v7) _ _:=hS
    refine zgW (bs:=[.sl (.id (g2+1+2+5+13+2)) 1 (([v6]:List Int).map cI),.agg (Spot_.cells r12.1),.i r12.2]) (.inl rfl) hS (by decide) rfl rfl ((hf hr13).le (.cons (.sl _ _ _) (.k (.k .nil)))) (hk _ _).ids (by omega) fun H hS=>?_
    refine zc5 (e:=r13.1) (by decide) rfl ?_
    refine Ni ?_
    replace hS:=hS.keep (L':=([]++Lo r13.2)) [false] rfl
    refine Ws ?_
    rcases bft (!r13.1) with hb14 | hb14
    ·replace hM:=ifT hM hb14
     refine Ct hb14 ?_
     refine zaS ?_
     refine zao ?_
     refine zaV ?_
     refine zcn ?_
     refine zbA ?_
     refine zaV ?_
     refine zdf (x:=.tup []) (f:=fun r=>.tup []) (fd:=fun r=>(Lo r.2)) (.inr rfl) ?_ (.refl _) (Option.some.inj hM) hS 0 rfl
     exact rfl
    ·replace hM:=ifF hM hb14
     refine Cf hb14 ?_
     refine zay ?_
     refine Ws ?_
     refine Sq ?_
     refine zaY (J:=Bool) (fun j=>[(0,.ep (zbL a0.1 a0.2 m0)),(2,f0),(4,.ep [.i v2,.i v3,.i v4,.i v5,.i a1.place,.i a1.credit]),(6,.i v6),(17,.i (a0.1.Wheel.Coins.length:Int)),(18,.i v6),(50,.b j)]) (fun j H' g'=>St (fun i=>i<g/\i∉ids (Lo st)) H0 ([]++Lo r13.2) H' g'/\za1 n (zaN n a0 a1 aF m2) a0 a1 aF v2 v3 v4 v5 v6 r13 j=some r) ?_ ?_
     ·rintro v15 H g4 ⟨hS,hM⟩
      change wpA _ _ _ _ (Fr.of [(0,.ep (zbL a0.1 a0.2 m0)),(2,f0),(4,.ep [.i v2,.i v3,.i v4,.i v5,.i a1.place,.i a1.credit]),(6,.i v6),(17,.i (a0.1.Wheel.Coins.length:Int)),(18,.i v6),(50,.b v15)]) _ _
      replace hS:St (fun i=>i<g/\i∉ids (Lo st)) H0 ([]++Lo r13.2) H g4:=hS
      replace hM:za1 n (zaN n a0 a1 aF m2) a0 a1 aF v2 v3 v4 v5 v6 r13 v15=some r:=hM
      rcases bft v15 with hb16 | hb16
      ·replace hM:=ifT hM hb16
       refine Ct hb16 ?_
       refine zb1 ?_
       refine zav ?_
       refine zaD ?_
       exact zai r13.2 (.k (.k (.k (.k (.k .nil))))) ⟨(hS.keep [] rfl).up (by omega),hM⟩
      ·replace hM:=ifF hM hb16
       refine Cf hb16 ?_
       refine zay ?_
       refine Ws ?_
       refine Sq ?_
       have hS0:=hS
       refine zc4 (n:=13) rfl (by kernel_rfl) ?_
       refine Om (.ep (zbL a0.1 a0.2 m0)) ?_
       refine zlT (by decide) rfl ?_
       refine Of ((zbL a0.1 a0.2 m0)) zk3 ?_
       refine Olg (.agg (Wheel.cells a0.1.Wheel)) zd7 ?_
       refine Olg (.agg [.i v2,.i v3,.i v4,.i v5,.i a1.place,.i a1.credit]) zc3 ?_
       refine Om (.i v6) ?_
       obtain ⟨r17,hr17,hM⟩:=zaj hM
       refine zaO (bs:=[.agg (Wheel.cells a0.1.Wheel),.agg [.i v2,.i v3,.i v4,.i v5,.i a1.place,.i a1.credit],.i v6,.b true]) (by decide) rfl rfl ((zf0 hr17).le (.k (.k (.k (.k .nil))))) ?_
       refine Om (.tup [.agg (Spot_.cells r17.1),.i r17.2]) ?_
       refine Ox (.agg (Spot_.cells r17.1)) ?_
       refine Ox (.i r17.2) ?_
       refine za4 hS (by decide) zdW (by omega) fun H hS=>?_
       refine zaC (v:=.agg (Spot_.cells r17.1)) (ns:=(Spot_.cells r17.1)) (L':=([(g4+10,.cells (Spot_.cells r17.1))]++Lo r13.2)) 0 hS rfl rfl (.behind (by kernel_rfl)) rfl rfl zfI nlb rfl fun H hS=>?_
       refine Oa (.i r17.2) ?_
       refine Ni ?_
       refine zaW (L':=([]++Lo r13.2)) 0 9 hS rfl rfl rfl fun H hS=>?_
       refine Ws ?_
       refine Sq ?_
       refine Rg 7 ?_
       refine Om (f0) ?_
       refine Om (.i v6) ?_
       refine zbg (es:=[[.i (-1)],[.i v6]]) hS (by decide) zaP zdp rfl zcZ rfl (by decide) (by omega) fun H hS=>?_
       refine Olg (.agg (Spot_.cells r17.1)) zc3 ?_
       refine Om (.i r17.2) ?_
       obtain ⟨r18,hr18,hM⟩:=zaj hM
       replace hS:St (fun i=>i<g/\i∉ids (Lo st)) H0 ([(g4+13+2,.row 3 2)]++Lo r13.2) _ _:=hS
       refine zgW (bs:=[.sl (.id (g4+13+2)) 1 (([(-1),v6]:List Int).map cI),.agg (Spot_.cells r17.1),.i r17.2]) (.inl rfl) hS (by decide) rfl rfl ((hf hr18).le (.cons (.sl _ _ _) (.k (.k .nil)))) (hk _ _).ids (by omega) fun H hS=>?_
       refine zc5 (e:=r18.1) (by decide) rfl ?_
       refine Ni ?_
       replace hS:=hS.keep (L':=([]++Lo r18.2)) [false] rfl
       refine Ws ?_
       rcases bft (!r18.1) with hb19 | hb19
       ·replace hM:=ifT hM hb19
        refine Ct hb19 ?_
        refine zaS ?_
        refine zaV ?_
        refine zcn ?_
        refine zbA ?_
        refine zaV ?_
        refine zdf (x:=.tup []) (f:=fun r=>.tup []) (fd:=fun r=>(Lo r.2)) (.inr rfl) ?_ (.refl _) (Option.some.inj hM) hS 0 rfl
        exact rfl
       ·replace hM:=ifF hM hb19
        refine Cf hb19 ?_
        refine zay ?_
        refine zas ?_
        exact zai r18.2 (.k (.k (.k (.k (.k .nil))))) ⟨(hS.keep [] rfl).up (by omega),hM⟩
     ·refine Rg 8 ?_
      refine Of ([.i v2,.i v3,.i v4,.i v5,.i a1.place,.i a1.credit]) zfZ ?_
      refine Olp (.i a1.credit) zaf zal ?_
      refine Oi (.b (a1.credit==0)) ?_
      refine Om (.b (a1.credit==0)) ?_
      rcases bft (a1.credit==0) with hb20 | hb20
      ·replace hM:=ifT hM hb20
       refine On (want:=false) hb20 ?_
       refine On (want:=false) hb20 ?_
       refine On (want:=false) hb20 ?_
       refine Pt (.b true) hb20 ?_
       refine Ni ?_
       exact zai true (.k (.k (.k (.k (.k (.k (.k .nil))))))) ⟨(hS.keep [] rfl).up (by omega),hM⟩
      ·replace hM:=ifF hM hb20
       refine Oy (want:=false) hb20 ?_
       refine Of ([.i v2,.i v3,.i v4,.i v5,.i a1.place,.i a1.credit]) zi0 ?_
       refine Oy (want:=false) hb20 ?_
       refine Olp (.i a1.place) zaf zal ?_
       refine Oy (want:=false) hb20 ?_
       refine Oi (.b (a1.place==0)) ?_
       refine Pf (.b (a1.place==0)) hb20 ?_
       refine Ni ?_
       exact zai (a1.place==0) (.k (.k (.k (.k (.k (.k (.k .nil))))))) ⟨(hS.keep [] rfl).up (by omega),hM⟩
 ·replace hM:=ifF hM hb8
  refine Cf hb8 ?_
  refine zb1 ?_
  refine zav ?_
  refine zau ?_
  refine zaD ?_
  refine zdf (x:=.tup []) (f:=fun r=>.tup []) (fd:=fun r=>(Lo r.2)) (.inl rfl) ?_ (.refl _) (Option.some.inj hM) hS 0 rfl
  exact rfl
theorem zha {p1 p2 p3:Nat} (hnd:[p1,p2,p3].Nodup) {n:Nat} {rec:(Wheel_×Bool)->Spot_->(List (Spot_×Int))->Option (Int×(List (Spot_×Int)))} (hrec:∀{a0:Wheel_×Bool} {a1:Spot_} {st:List (Spot_×Int)} {r:Int×(List (Spot_×Int))},rec a0 a1 st=some r->zhc Try.prog 17 [.ep (zbL a0.1 a0.2 p3),.agg (Spot_.cells a1)] [(p3,.obj none (zag (mpv zaq st)))] (.i r.1) [(p3,.obj none (zag (mpv zaq r.2)))]) {a0:List Int} {a1:Spot_} {a2:Int} {a3:Wheel_×Bool} {st:Bool×Int×(List (Spot_×Int))} {r:Bool×(Bool×Int×(List (Spot_×Int)))} (hM:zbY n rec a0 a1 a2 a3 st=some r):zhc Try.prog 29 [.sl .no 1 (a0.map cI),.agg (Spot_.cells a1),.i a2,.ep [.ep (zbL a3.1 a3.2 p3)],.ptr p1 0,.ptr p2 0] [(p1,.cells [.b st.1]),(p2,.cells [.i st.2.1]),(p3,.obj none (zag (mpv zaq st.2.2)))] (.b r.1) [(p1,.cells [.b r.2.1]),(p2,.cells [.i r.2.2.1]),(p3,.obj none (zag (mpv zaq r.2.2.2)))]:=by
 refine zbE mixed Try.func29 rfl (by decide) Try.ntmps29 (by simp) (zd1 (zd1 (zrY zfS))) hnd ?pure ?cells fun H0 g hf_ hp=>?_
 case pure=>exact fun H _=>(show Go.AM.Pure _ from .v _).inH
 case cells=>exact (ziC (zeA (zbK (.inl (.inl (.v _))) zhs) (zeA (zbK (.inl (.inl (.v _))) zhs) (zrZ ziB))) zeW)
 rw [zah]
 change wpA _ _ _ _ (Fr.of [(0,.sl .no 1 (a0.map cI)),(1,.agg (Spot_.cells a1)),(2,.i a2),(3,.ep [.ep (zbL a3.1 a3.2 p3)]),(4,.ptr p1 0),(5,.ptr p2 0)]) H0 g
 have hS:=St.startH (L:=[(p1,.cells [.b st.1]),(p2,.cells [.i st.2.1]),(p3,.obj none (zag (mpv zaq st.2.2)))]) hf_ hnd hp
 replace hS:St (fun i=>i<g/\i∉ids [(p1,.cells [.b st.1]),(p2,.cells [.i st.2.1]),(p3,.obj none (zag (mpv zaq st.2.2)))]) H0 [(p1,.cells [.b st.1]),(p2,.cells [.i st.2.1]),(p3,.obj none (zag (mpv zaq st.2.2)))] H0 g:=hS
 refine Sq ?_
 refine Rg 2 ?_
 refine zcg (v:=.agg (Spot_.cells a1)) (cs:=(Spot_.cells a1)) hS (by decide) rfl rfl (by omega) fun H hS=>?_
 refine Oa (.b false) ?_
 refine Ni ?_
 refine zaW (L':=[(p1,.cells [.b st.1]),(p2,.cells [.i st.2.1]),(p3,.obj none (zag (mpv zaq st.2.2)))]) 0 7 hS rfl rfl rfl fun H hS=>?_
 refine Ws ?_
 refine zaY (J:=Bool×Int×(List (Spot_×Int))) (fun j=>[]) (fun j H' g'=>St (fun i=>i<g/\i∉ids [(p1,.cells [.b st.1]),(p2,.cells [.i st.2.1]),(p3,.obj none (zag (mpv zaq st.2.2)))]) H0 [(p1,.cells [.b j.1]),(p2,.cells [.i j.2.1]),(p3,.obj none (zag (mpv zaq j.2.2)))] H' g'/\zbQ j.1 j.2.1 j.2.2=some r) ?_ ?_
 ·rintro ⟨v1,v2,v3⟩ H g1 ⟨hS,hM⟩
  change wpA _ _ _ _ (Fr.of []) _ _
  replace hS:St (fun i=>i<g/\i∉ids [(p1,.cells [.b st.1]),(p2,.cells [.i st.2.1]),(p3,.obj none (zag (mpv zaq st.2.2)))]) H0 [(p1,.cells [.b v1]),(p2,.cells [.i v2]),(p3,.obj none (zag (mpv zaq v3)))] H g1:=hS
  replace hM:zbQ v1 v2 v3=some r:=hM
  refine Sq ?_
  refine Rg 1 ?_
  refine Oa (.b true) ?_
  refine Ni ?_
  refine Ws ?_
  refine zaS ?_
  refine zdf (x:=.b true) (f:=fun r=>.b r.1) (fd:=fun r=>[(p1,.cells [.b r.2.1]),(p2,.cells [.i r.2.2.1]),(p3,.obj none (zag (mpv zaq r.2.2.2)))]) (.inr rfl) ?_ (.refl _) (Option.some.inj hM) hS 0 rfl
  exact (zaw (zae (x:=.b true) rfl))
 ·refine Sq ?_
  refine Rg 6 ?_
  refine Om (.i a2) ?_
  refine Olp (.ep (zbL a3.1 a3.2 p3)) ziS zkR ?_
  refine Olg (.agg (Spot_.cells a1)) zc3 ?_
  obtain ⟨r4,hr4,hM⟩:=zaj hM
  have hndr4:=hS.nd_at (ns:=[2]) (M:=[(p3,.obj none (zag (mpv zaq st.2.2)))]) (M':=[(p3,.obj none (zag (mpv zaq r4.2)))]) (.cons rfl .nil) (by decide)
  refine zlV (bs:=[.ep (zbL a3.1 a3.2 p3),.agg (Spot_.cells a1)]) (M:=[(p3,.obj none (zag (mpv zaq st.2.2)))]) (M':=[(p3,.obj none (zag (mpv zaq r4.2)))]) (L':=[(p1,.cells [.b st.1]),(p2,.cells [.i st.2.1]),(p3,.obj none (zag (mpv zaq r4.2)))]) [2] (.inl rfl) hS (by decide) rfl rfl ((hrec hr4).le (.k (.k .nil))) (.cons rfl .nil) rfl (by omega) fun H hS=>?_
  refine Oi (.i (w64 (a2+r4.1))) ?_
  refine Oa (.i (w64 (a2+r4.1))) ?_
  refine Ni ?_
  refine Ws ?_
  refine zaY (J:=Bool) (fun j=>[(4,.ptr p1 0),(5,.ptr p2 0),(10,.i (w64 (a2+r4.1))),(25,.b j)]) (fun j H' g'=>St (fun i=>i<g/\i∉ids [(p1,.cells [.b st.1]),(p2,.cells [.i st.2.1]),(p3,.obj none (zag (mpv zaq st.2.2)))]) H0 [(p1,.cells [.b st.1]),(p2,.cells [.i st.2.1]),(p3,.obj none (zag (mpv zaq r4.2)))] H' g'/\zbR a2 st r4 j=some r) ?_ ?_
  ·rintro v5 H g2 ⟨hS,hM⟩
   change wpA _ _ _ _ (Fr.of [(4,.ptr p1 0),(5,.ptr p2 0),(10,.i (w64 (a2+r4.1))),(25,.b v5)]) _ _
   replace hS:St (fun i=>i<g/\i∉ids [(p1,.cells [.b st.1]),(p2,.cells [.i st.2.1]),(p3,.obj none (zag (mpv zaq st.2.2)))]) H0 [(p1,.cells [.b st.1]),(p2,.cells [.i st.2.1]),(p3,.obj none (zag (mpv zaq r4.2)))] H g2:=hS
   replace hM:zbR a2 st r4 v5=some r:=hM
   rcases bft v5 with hb6 | hb6
   ·replace hM:=ifT hM hb6
    refine Ct hb6 ?_
    refine Rg 3 ?_
    refine Om (.i (w64 (a2+r4.1))) ?_
    refine zaC (v:=.i (w64 (a2+r4.1))) (ns:=[.i (w64 (a2+r4.1))]) (L':=[(p1,.cells [.b st.1]),(p2,.cells [.i (w64 (a2+r4.1))]),(p3,.obj none (zag (mpv zaq r4.2)))]) 1 hS rfl rfl .no rfl rfl zdV nlb rfl fun H hS=>?_
    refine zaC (v:=.b false) (ns:=[.b false]) (L':=[(p1,.cells [.b false]),(p2,.cells [.i (w64 (a2+r4.1))]),(p3,.obj none (zag (mpv zaq r4.2)))]) 0 hS rfl rfl .no rfl rfl zsd nlb rfl fun H hS=>?_
    refine Ni ?_
    exact zai (false,w64 (a2+r4.1),r4.2) .nil ⟨(hS.keep [true,true,true] rfl).up (by omega),hM⟩
   ·replace hM:=ifF hM hb6
    refine Cf hb6 ?_
    refine zay ?_
    exact zai (st.1,st.2.1,r4.2) .nil ⟨(hS.keep [true,true,true] rfl).up (by omega),hM⟩
  ·have hS0:=hS
   refine zc4 (n:=10) rfl (by kernel_rfl) ?_
   refine zaK (v:=.b st.1) 0 hS (by decide) rfl rfl (.st hS0 0 rfl (by omega)) (po zvi zwB) ?_
   refine Om (.b st.1) ?_
   rcases bft st.1 with hb7 | hb7
   ·replace hM:=ifT hM hb7
    refine On (want:=false) hb7 ?_
    refine On (want:=false) hb7 ?_
    refine On (want:=false) hb7 ?_
    refine On (want:=false) hb7 ?_
    refine On (want:=false) hb7 ?_
    refine On (want:=false) hb7 ?_
    refine On (want:=false) hb7 ?_
    refine Pt (.b true) hb7 ?_
    refine Ni ?_
    exact zai true (.k (.k (.k (.k .nil)))) ⟨(hS.keep [true,true,true] rfl).up (by omega),hM⟩
   ·replace hM:=ifF hM hb7
    refine Oy (want:=false) hb7 ?_
    refine Olp (.ep (zbL a3.1 a3.2 p3)) ziS zkR ?_
    refine Oy (want:=false) hb7 ?_
    refine zlT (by decide) rfl ?_
    refine Oy (want:=false) hb7 ?_
    refine Of ((zbL a3.1 a3.2 p3)) zsy ?_
    refine Oy (want:=false) hb7 ?_
    refine Olp (fnB a3.2) zt2 zvq ?_
    refine Oy (want:=false) hb7 ?_
    refine Om (.i (w64 (a2+r4.1))) ?_
    refine Oy (want:=false) hb7 ?_
    refine zaK (v:=.i st.2.1) 1 hS (by decide) rfl rfl (.st hS0 1 rfl (by omega)) (po zaf zal) ?_
    refine Oy (want:=false) hb7 ?_
    obtain ⟨r8,hr8,hM⟩:=zaj hM
    refine zaO (bs:=[.i (w64 (a2+r4.1)),.i st.2.1]) (by decide) rfl rfl ((zlv hr8).le (.k (.k .nil))) ?_
    refine Pf (.b r8) hb7 ?_
    refine Ni ?_
    exact zai r8 (.k (.k (.k (.k .nil)))) ⟨(hS.keep [true,true,true] rfl).up (by omega),hM⟩
theorem zhF {p1:Nat} (hnd:[p1].Nodup) {n:Nat} {rec:(Wheel_×Bool)->Spot_->(List (Spot_×Int))->Option (Int×(List (Spot_×Int)))} (hrec:∀{a0:Wheel_×Bool} {a1:Spot_} {st:(List (Spot_×Int))} {r:Int×(List (Spot_×Int))},rec a0 a1 st=some r->zhc Try.prog 17 [.ep (zbL a0.1 a0.2 p1),.agg (Spot_.cells a1)] [(p1,.obj none (zag (mpv zaq st)))] (.i r.1) [(p1,.obj none (zag (mpv zaq r.2)))]) {a0:Wheel_×Bool} {a1:Spot_} {st:(List (Spot_×Int))} {r:Int×(List (Spot_×Int))} (hM:zcb n rec a0 a1 st=some r):zhc Try.prog 17 [.ep (zbL a0.1 a0.2 p1),.agg (Spot_.cells a1)] [(p1,.obj none (zag (mpv zaq st)))] (.i r.1) [(p1,.obj none (zag (mpv zaq r.2)))]:=by
 refine zbE mixed Try.func17 rfl (by decide) Try.ntmps17 (by simp) (zrY zfS) hnd ?pure ?cells fun H0 g hf_ hp=>?_
 case pure=>exact fun H _=>(show Go.AM.Pure _ from .v _).inH
 case cells=>exact (ziC (zrZ ziB) zeW)
 rw [zah]
 change wpA _ _ _ _ (Fr.of [(0,.ep (zbL a0.1 a0.2 p1)),(1,.agg (Spot_.cells a1))]) H0 g
 have hS:=St.startH (L:=[(p1,.obj none (zag (mpv zaq st)))]) hf_ hnd hp
 replace hS:St (fun i=>i<g/\i∉ids [(p1,.obj none (zag (mpv zaq st)))]) H0 [(p1,.obj none (zag (mpv zaq st)))] H0 g:=hS
 refine Sq ?_
 refine Rg 3 ?_
 refine zcg (v:=.ep (zbL a0.1 a0.2 p1)) (cs:=[.ep (zbL a0.1 a0.2 p1)]) hS (by decide) rfl rfl (by omega) fun H hS=>?_
 refine zcg (v:=.agg (Spot_.cells a1)) (cs:=(Spot_.cells a1)) hS (by decide) rfl rfl (by omega) fun H hS=>?_
 refine Oa (.i 0) ?_
 refine Ni ?_
 refine zaW (L':=[(g+1,.cells (Spot_.cells a1)),(p1,.obj none (zag (mpv zaq st)))]) 1 2 hS rfl rfl rfl fun H hS=>?_
 refine Ws ?_
 refine Sq ?_
 refine Rg 1 ?_
 refine Oa (.i 0) ?_
 refine Ni ?_
 refine Ws ?_
 refine zaY (J:=Int×Int×Int×Int×Int) (fun j=>[(2,.ep [.ep (zbL a0.1 a0.2 p1)]),(3,.ptr (g+1) 0),(5,.i j.1)]) (fun j H' g'=>St (fun i=>i<g/\i∉ids [(p1,.obj none (zag (mpv zaq st)))]) H0 [(g+1,.cells [.i j.2.1,.i j.2.2.1,.i j.2.2.2.1,.i j.2.2.2.2,.i a1.place,.i a1.credit]),(p1,.obj none (zag (mpv zaq st)))] H' g'/\zb0 n rec a0 a1 st j.1 j.2.1 j.2.2.1 j.2.2.2.1 j.2.2.2.2=some r) ?_ ?_
 ·rintro ⟨v1,v2,v3,v4,v5⟩ H g1 ⟨hS,hM⟩
  change wpA _ _ _ _ (Fr.of [(2,.ep [.ep (zbL a0.1 a0.2 p1)]),(3,.ptr (g+1) 0),(5,.i v1)]) _ _
  replace hS:St (fun i=>i<g/\i∉ids [(p1,.obj none (zag (mpv zaq st)))]) H0 [(g+1,.cells [.i v2,.i v3,.i v4,.i v5,.i a1.place,.i a1.credit]),(p1,.obj none (zag (mpv zaq st)))] H g1:=hS
  replace hM:zb0 n rec a0 a1 st v1 v2 v3 v4 v5=some r:=hM
  refine Sq ?_
  refine Rg 6 ?_
  refine zap (by decide) zfZ rfl ?_
  refine zaK (v:=.i a1.credit) 0 hS (by decide) rfl rfl .no (po zaf zal) ?_
  refine Om (.i v1) ?_
  refine zu0 (v:=.i (min a1.credit v1)) (by decide) rfl ?_
  refine zap (by decide) zfZ rfl ?_
  refine zaC (v:=.i (min a1.credit v1)) (ns:=[.i (min a1.credit v1)]) (L':=[(g+1,.cells [.i v2,.i v3,.i v4,.i v5,.i a1.place,.i (min a1.credit v1)]),(p1,.obj none (zag (mpv zaq st)))]) 0 hS rfl rfl .no rfl rfl zdV nlb rfl fun H hS=>?_
  refine Ni ?_
  refine Ws ?_
  refine Sq ?_
  refine Sq ?_
  have hS0:=hS
  refine zc4 (n:=11) rfl (by kernel_rfl) ?_
  refine Olp (.ep (zbL a0.1 a0.2 p1)) ziS zkR ?_
  refine zlT (by decide) rfl ?_
  refine Of ((zbL a0.1 a0.2 p1)) znQ ?_
  refine Olp (.mp p1) zpE zsm ?_
  refine zaK (v:=.agg [.i v2,.i v3,.i v4,.i v5,.i a1.place,.i (min a1.credit v1)]) 0 hS (by decide) rfl rfl (.st hS0 0 rfl (by omega)) (pg zc3) ?_
  obtain ⟨x6,hx6,hM⟩:=zaj hM
  refine zqE (kv:=zaq) (ok:=zgZ) (M:=st) (k:=(⟨(⟨v2,v3,v4,v5⟩:Bag_),a1.place,(min a1.credit v1)⟩:Spot_)) (u:=x6) 1 zuD hS (by decide) rfl rfl rfl (.st hS0 1 rfl (by omega)) zkb zsn hx6 ?_
  refine Om (.tup [.i x6,.b (zbt st (⟨(⟨v2,v3,v4,v5⟩:Bag_),a1.place,(min a1.credit v1)⟩:Spot_))]) ?_
  refine Ox (.i x6) ?_
  refine Ox (.b (zbt st (⟨(⟨v2,v3,v4,v5⟩:Bag_),a1.place,(min a1.credit v1)⟩:Spot_))) ?_
  refine Oa (.i x6) ?_
  refine Oa (.b (zbt st (⟨(⟨v2,v3,v4,v5⟩:Bag_),a1.place,(min a1.credit v1)⟩:Spot_))) ?_
  refine Ni ?_
  refine Ws ?_
  refine zaY (J:=Bool) (fun j=>[(2,.ep [.ep (zbL a0.1 a0.2 p1)]),(3,.ptr (g+1) 0),(8,.i x6),(39,.b j)]) (fun j H' g'=>St (fun i=>i<g/\i∉ids [(p1,.obj none (zag (mpv zaq st)))]) H0 [(g+1,.cells [.i v2,.i v3,.i v4,.i v5,.i a1.place,.i (min a1.credit v1)]),(p1,.obj none (zag (mpv zaq st)))] H' g'/\zbZ n rec a0 a1 st v1 v2 v3 v4 v5 x6 j=some r) ?_ ?_
  ·rintro v7 H g2 ⟨hS,hM⟩
   change wpA _ _ _ _ (Fr.of [(2,.ep [.ep (zbL a0.1 a0.2 p1)]),(3,.ptr (g+1) 0),(8,.i x6),(39,.b v7)]) _ _
   replace hS:St (fun i=>i<g/\i∉ids [(p1,.obj none (zag (mpv zaq st)))]) H0 [(g+1,.cells [.i v2,.i v3,.i v4,.i v5,.i a1.place,.i (min a1.credit v1)]),(p1,.obj none (zag (mpv zaq st)))] H g2:=hS
   replace hM:zbZ n rec a0 a1 st v1 v2 v3 v4 v5 x6 v7=some r:=hM
   rcases bft v7 with hb8 | hb8
   ·replace hM:=ifT hM hb8
    refine Ct hb8 ?_
    refine Sq ?_
    refine Rg 2 ?_
    refine Om (.i x6) ?_
    refine Oa (.i x6) ?_
    refine Ni ?_
    replace hS:=hS.keep (L':=[(p1,.obj none (zag (mpv zaq st)))]) [false,true] rfl
    refine Ws ?_
    refine zaS ?_
    refine zao ?_
    refine zdf (x:=.i x6) (f:=fun r=>.i r.1) (fd:=fun r=>[(p1,.obj none (zag (mpv zaq r.2)))]) (.inr rfl) ?_ (.refl _) (Option.some.inj hM) hS 0 rfl
    exact (zaw (zae (x:=.i x6) rfl))
   ·replace hM:=ifF hM hb8
    refine Cf hb8 ?_
    refine zay ?_
    refine Ws ?_
    refine Sq ?_
    refine Rg 4 ?_
    refine za4 hS (by decide) ztT (by omega) fun H hS=>?_
    refine za4 hS (by decide) ztU (by omega) fun H hS=>?_
    refine zaC (v:=.i 0) (ns:=[.i 0]) (L':=[(g2+1,.cells [.b false]),(g2+0,.cells [.i 0]),(g+1,.cells [.i v2,.i v3,.i v4,.i v5,.i a1.place,.i (min a1.credit v1)]),(p1,.obj none (zag (mpv zaq st)))]) 1 hS rfl rfl .no rfl rfl zdV nlb rfl fun H hS=>?_
    refine zaC (v:=.b true) (ns:=[.b true]) (L':=[(g2+1,.cells [.b true]),(g2+0,.cells [.i 0]),(g+1,.cells [.i v2,.i v3,.i v4,.i v5,.i a1.place,.i (min a1.credit v1)]),(p1,.obj none (zag (mpv zaq st)))]) 0 hS rfl rfl .no rfl rfl zsd nlb rfl fun H hS=>?_
    refine Ni ?_
    refine Ws ?_
    refine Sq ?_
    refine Rg 4 ?_
    refine Olp (.ep (zbL a0.1 a0.2 p1)) ziS zkR ?_
    refine zaK (v:=.agg [.i v2,.i v3,.i v4,.i v5,.i a1.place,.i (min a1.credit v1)]) 2 hS (by decide) rfl rfl .no (pg zc3) ?_
    refine zcL (first:=[]) (cap:=[.ep [.ep (zbL a0.1 a0.2 p1)],.ptr (g2+1) 0,.ptr (g2+0) 0]) (by decide) rfl rfl ?_
    obtain ⟨r9,hr9,hM⟩:=zaj hM
    have hndr9:=hS.nd_at (ns:=[0,1,3]) (M:=[(g2+1,.cells [.b true]),(g2+0,.cells [.i 0]),(p1,.obj none (zag (mpv zaq st)))]) (M':=[(g2+1,.cells [.b r9.2.1]),(g2+0,.cells [.i r9.2.2.1]),(p1,.obj none (zag (mpv zaq r9.2.2.2)))]) (.cons rfl (.cons rfl (.cons rfl .nil))) (by decide)
    have hncr9:=hS.nd_at (ns:=[0,1,3]) (M:=[(g2+1,.cells [.b true]),(g2+0,.cells [.i 0]),(p1,.obj none (zag (mpv zaq st)))]) (M':=[(g2+1,.cells [.b r9.2.1]),(g2+0,.cells [.i r9.2.2.1]),(p1,.obj none (zag (mpv zaq r9.2.2.2)))]) (.cons rfl (.cons rfl (.cons rfl .nil))) (by decide)
    refine zlV (bs:=[.ep (zbL a0.1 a0.2 p1),.agg [.i v2,.i v3,.i v4,.i v5,.i a1.place,.i (min a1.credit v1)],.fn (.func 29) [] [.ep [.ep (zbL a0.1 a0.2 p1)],.ptr (g2+1) 0,.ptr (g2+0) 0]]) (M:=[(g2+1,.cells [.b true]),(g2+0,.cells [.i 0]),(p1,.obj none (zag (mpv zaq st)))]) (M':=[(g2+1,.cells [.b r9.2.1]),(g2+0,.cells [.i r9.2.2.1]),(p1,.obj none (zag (mpv zaq r9.2.2.2)))]) (L':=[(g2+1,.cells [.b r9.2.1]),(g2+0,.cells [.i r9.2.2.1]),(g+1,.cells [.i v2,.i v3,.i v4,.i v5,.i a1.place,.i (min a1.credit v1)]),(p1,.obj none (zag (mpv zaq r9.2.2.2)))]) [0,1,3] (.inl rfl) hS (by decide) rfl rfl ((zii (Lo:=(fun (s:Bool×Int×(List (Spot_×Int)))=>[(g2+1,.cells [.b s.1]),(g2+0,.cells [.i s.2.1]),(p1,.obj none (zag (mpv zaq s.2.2)))]))  (fun _ _=>(zd1 (zd1 (zrY zfS)))) (fun _=>hndr9) (fun s=>(ziC (zeA (zbK (.inl (.inl (.v _))) zhs) (zeA (zbK (.inl (.inl (.v _))) zhs) (zrZ ziB))) zeW)) (aF:=(fun (x0:List Int) (x1:Spot_) (x2:Int) s=>zbY n rec x0 x1 x2 a0 s)) (fun s H hH=>(.fn _ _ _ zb2 (za0 (.ep _ (za0 (.ep _ (za0 (show Go.AM.Pure _ from .v _).inH (za0 (show Go.AM.Pure _ from .sl _ _ (zaA (fun x=>(zab (.v _) zaJ)))).inH (za0 (show Go.AM.Pure _ from .sl _ _ (zaA (fun x=>(zab (.v _) zaJ)))).inH (za0 (show Go.AM.Pure _ from zpJ _).inH (za0 (zyk hH 2 rfl) zb2)))))) zb2)) (za0 (znt hH 0 rfl) (za0 (znt hH 1 rfl) zb2))))) rfl (fun h=>zif (zha (p1:=g2+1)  (p2:=g2+0)  (p3:=p1)  hncr9 hrec h)) hr9).le (.k (.k (.k .nil)))) (.cons rfl (.cons rfl (.cons rfl .nil))) rfl (by omega) fun H hS=>?_
    refine Ni ?_
    replace hS:=hS.keep (L':=[(g2+0,.cells [.i r9.2.2.1]),(g+1,.cells [.i v2,.i v3,.i v4,.i v5,.i a1.place,.i (min a1.credit v1)]),(p1,.obj none (zag (mpv zaq r9.2.2.2)))]) [false,true,true,true] rfl
    refine Ws ?_
    refine Sq ?_
    have hS0:=hS
    refine zc4 (n:=7) rfl (by kernel_rfl) ?_
    refine Olp (.ep (zbL a0.1 a0.2 p1)) ziS zkR ?_
    refine zlT (by decide) rfl ?_
    refine Of ((zbL a0.1 a0.2 p1)) znQ ?_
    refine Olp (.mp p1) zpE zsm ?_
    refine zaK (v:=.agg [.i v2,.i v3,.i v4,.i v5,.i a1.place,.i (min a1.credit v1)]) 1 hS (by decide) rfl rfl (.st hS0 1 rfl (by omega)) (pg zc3) ?_
    refine zaK (v:=.i r9.2.2.1) 0 hS (by decide) rfl rfl (.st hS0 0 rfl (by omega)) (po zaf zal) ?_
    obtain ⟨l10,hl10,hM⟩:=zaj hM
    refine zoK (kv:=zaq) (ok:=zgZ) (M:=r9.2.2.2) (k:=(⟨(⟨v2,v3,v4,v5⟩:Bag_),a1.place,(min a1.credit v1)⟩:Spot_)) (v:=r9.2.2.1) (M':=l10) (L':=[(g2+0,.cells [.i r9.2.2.1]),(g+1,.cells [.i v2,.i v3,.i v4,.i v5,.i a1.place,.i (min a1.credit v1)]),(p1,.obj none (zag (mpv zaq l10)))]) 2 zuD (.inr (by kernel_rfl)) hS rfl rfl rfl rfl zkb zsn hl10 rfl fun H hS=>?_
    refine Ni ?_
    replace hS:=hS.keep (L':=[(g2+0,.cells [.i r9.2.2.1]),(p1,.obj none (zag (mpv zaq l10)))]) [true,false,true] rfl
    refine Ws ?_
    refine Sq ?_
    refine Rg 2 ?_
    refine zaK (v:=.i r9.2.2.1) 0 hS (by decide) rfl rfl .no (po zaf zal) ?_
    refine Oa (.i r9.2.2.1) ?_
    refine Ni ?_
    replace hS:=hS.keep (L':=[(p1,.obj none (zag (mpv zaq l10)))]) [false,true] rfl
    refine Ws ?_
    refine zaS ?_
    refine zdf (x:=.i r9.2.2.1) (f:=fun r=>.i r.1) (fd:=fun r=>[(p1,.obj none (zag (mpv zaq r.2)))]) (.inr rfl) ?_ (.refl _) (Option.some.inj hM) hS 0 rfl
    exact (zaw (zae (x:=.i r9.2.2.1) rfl))
  ·refine Rg 5 ?_
   refine Om (.b (zbt st (⟨(⟨v2,v3,v4,v5⟩:Bag_),a1.place,(min a1.credit v1)⟩:Spot_))) ?_
   refine Om (.b (zbt st (⟨(⟨v2,v3,v4,v5⟩:Bag_),a1.place,(min a1.credit v1)⟩:Spot_))) ?_
   rcases bft (zbt st (⟨(⟨v2,v3,v4,v5⟩:Bag_),a1.place,(min a1.credit v1)⟩:Spot_)) with hb11 | hb11
   ·replace hM:=ifT hM hb11
    refine On (want:=false) hb11 ?_
    refine On (want:=false) hb11 ?_
    refine Pt (.b true) hb11 ?_
    refine Ni ?_
    exact zai true (.k (.k (.k (.k .nil)))) ⟨(hS.keep [true,true] rfl).up (by omega),hM⟩
   ·replace hM:=ifF hM hb11
    refine Oy (want:=false) hb11 ?_
    refine Om (.i v1) ?_
    refine Oy (want:=false) hb11 ?_
    refine Oi (.b (v1==0)) ?_
    refine Pf (.b (v1==0)) hb11 ?_
    refine Ni ?_
    exact zai (v1==0) (.k (.k (.k (.k .nil)))) ⟨(hS.keep [true,true] rfl).up (by omega),hM⟩
 ·refine Sq ?_
  refine Rg 3 ?_
  refine zap (by decide) zhC rfl ?_
  refine zaK (v:=.agg (Bag_.cells a1.left)) 0 hS (by decide) rfl rfl .no (pg zt0) ?_
  refine Om (.i 0) ?_
  refine Ni ?_
  refine Ws ?_
  refine zaB ?_
  refine zco (V:=Int×Int) (fun v=>[(2,.ep [.ep (zbL a0.1 a0.2 p1)]),(3,.ptr (g+1) 0),(5,.i v.1),(13,.agg (Bag_.cells a1.left)),(14,.i v.2)]) (fun v m3 H' g'=>St (fun i=>i<g/\i∉ids [(p1,.obj none (zag (mpv zaq st)))]) H0 [(g+1,.cells (Spot_.cells a1)),(p1,.obj none (zag (mpv zaq st)))] H' g'/\zct n rec a0 a1 st m3 v.1 v.2=some r) (n:=n) (0,0) (.k (.k (.k (.k (.k .nil))))) ⟨(hS.keep [true,true] rfl).up (by omega),hM⟩ ?_
  rintro ⟨v12,v13⟩ m3 H g3 ⟨hS,hM⟩
  obtain _ | m3:=m3
  ·exact nomatch (show none=some _ from hM)
  change wpA _ _ _ _ (Fr.of [(2,.ep [.ep (zbL a0.1 a0.2 p1)]),(3,.ptr (g+1) 0),(5,.i v12),(13,.agg (Bag_.cells a1.left)),(14,.i v13)]) _ _
  replace hS:St (fun i=>i<g/\i∉ids [(p1,.obj none (zag (mpv zaq st)))]) H0 [(g+1,.cells (Spot_.cells a1)),(p1,.obj none (zag (mpv zaq st)))] H g3:=hS
  replace hM:zdD n rec a0 a1 st (zct n rec a0 a1 st m3) v12 v13=some r:=hM
  refine Sq ?_
  refine Rg 1 ?_
  refine Oi (.b (decide (v13<4))) ?_
  refine Ni ?_
  refine Ws ?_
  refine Sq ?_
  rcases bft (decide (v13<4)) with hb14 | hb14
  ·replace hM:=ifT hM hb14
   refine Ct hb14 ?_
   refine zay ?_
   refine Ws ?_
   refine Sq ?_
   refine zaB ?_
   refine Sq ?_
   refine Rg 2 ?_
   obtain ⟨x15,hx15,hM⟩:=zaj hM
   refine zmq (v:=.i x15) (cs:=(Bag_.cells a1.left)) (z:=v13) (by decide) rfl rfl zt1 (zeO hx15).1 (zmv hx15) (zpr (xs:=([a1.left.c0,a1.left.c1,a1.left.c2,a1.left.c3]:List Int)) zaf zal rfl hx15) ?_
   refine Oa (.i x15) ?_
   refine Ni ?_
   refine Ws ?_
   refine Rg 4 ?_
   refine Om (.i v12) ?_
   refine Om (.i x15) ?_
   refine Oi (.i (w64 (v12+x15))) ?_
   refine Oa (.i (w64 (v12+x15))) ?_
   refine Ni ?_
   refine zas ?_
   refine Ws ?_
   refine Rg 2 ?_
   refine Oi (.i (w64 (v13+1))) ?_
   refine Om (.i (w64 (v13+1))) ?_
   refine Ni ?_
   exact zbo (w64 (v12+x15),w64 (v13+1)) (Nat.lt_succ_self _) (.k (.k (.k (.k (.k .nil))))) ⟨(hS.keep [true,true] rfl).up (by omega),hM⟩
  ·replace hM:=ifF hM hb14
   refine Cf hb14 ?_
   refine zb1 ?_
   refine zav ?_
   refine zau ?_
   refine zaD ?_
   exact zai (v12,a1.left.c0,a1.left.c1,a1.left.c2,a1.left.c3) (.k (.k (.k .nil))) ⟨(hS.keep [true,true] rfl).up (by omega),hM⟩
theorem zf1 {p1:Nat} (hnd:[p1].Nodup):∀{n:Nat} {a0:Wheel_×Bool} {a1:Spot_} {st:(List (Spot_×Int))} {r:Int×(List (Spot_×Int))},zbl n a0 a1 st=some r->zhc Try.prog 17 [.ep (zbL a0.1 a0.2 p1),.agg (Spot_.cells a1)] [(p1,.obj none (zag (mpv zaq st)))] (.i r.1) [(p1,.obj none (zag (mpv zaq r.2)))]
 | 0,_,_,_,_,h=>nomatch (show none=some _ from h)
 | n+1,_,_,_,_,h=>zhF hnd (n:=n) (rec:=zbl n) (fun h=>zf1 hnd h) h
theorem zjJ {n:Nat} {a0:Wheel} {a1:List Int} {r:Int×Int} (hM:zeu n a0 a1=some r):zaR Try.prog 8 [.agg (Wheel.cells a0),.sl .no 1 (a1.map cI)] (.tup [.i r.1,.i r.2]):=by
 refine zaz mixed Try.func8 rfl (by decide) Try.ntmps8 (by simp) ?pure fun H0 g hf=>?_
 case pure=>exact .tup _ (zab (.v _) (zab (.v _) zaJ))
 rw [zah]
 change wpA _ _ _ _ (Fr.of [(0,.agg (Wheel.cells a0)),(1,.sl .no 1 (a1.map cI))]) H0 g
 have hS:=St.start hf
 refine Sq ?_
 refine Rg 3 ?_
 refine zcg (v:=.agg (Wheel.cells a0)) (cs:=(Wheel.cells a0)) hS (by decide) rfl rfl (by omega) fun H hS=>?_
 refine Oa (.i 0) ?_
 refine Oa (.i 0) ?_
 refine Ni ?_
 refine zaW (L':=[]) 0 2 hS rfl rfl rfl fun H hS=>?_
 refine Ws ?_
 refine Sq ?_
 refine Rg 11 ?_
 refine Olg (.agg (Wheel.cells a0)) zdq ?_
 refine Om (.sl .no 1 (a1.map cI)) ?_
 obtain ⟨r1,hr1,hM⟩:=zaj hM
 rcases bft r1.1.isSome with hb2 | hb2
 ·replace hM:=ifT hM hb2
  obtain ⟨x3,hx3,hM⟩:=zaj hM
  refine zvf (bs:=[.agg (Wheel.cells a0),.sl .no 1 (a1.map cI),.fn (.func 16) [] []]) (.inl rfl) hS (by decide) rfl rfl ((zjn (r:=r1.2) (by rw [←hx3];exact hr1)).le (.k (.k (.k .nil)))) (by omega) fun H hS hU=>?_
  refine Om (.tup [.ep (zbL x3 true (g+3+11+19)),.agg (Spot_.cells r1.2.1),.i r1.2.2]) ?_
  refine Ox (.ep (zbL x3 true (g+3+11+19))) ?_
  refine Ox (.agg (Spot_.cells r1.2.1)) ?_
  refine Ox (.i r1.2.2) ?_
  refine ztM hS hU (by decide) zdW (by omega) (by omega) (by omega) fun H hS hU=>?_
  refine Oa (.ep (zbL x3 true (g+3+11+19))) ?_
  refine zaC (v:=.agg (Spot_.cells r1.2.1)) (ns:=(Spot_.cells r1.2.1)) (L':=[(g+3+7,.cells (Spot_.cells r1.2.1)),(g+3+11+19,.obj none (zag (mpv zaq ([]:List (Spot_×Int)))))]) 0 hS rfl rfl .no rfl rfl zfI nlb rfl fun H hS=>?_
  refine Oa (.i r1.2.2) ?_
  refine Ni ?_
  refine zaW (L':=[(g+3+11+19,.obj none (zag (mpv zaq ([]:List (Spot_×Int)))))]) 0 7 hS rfl rfl rfl fun H hS=>?_
  refine Ws ?_
  refine Sq ?_
  refine Sq ?_
  refine Rg 2 ?_
  refine Om (.i r1.2.2) ?_
  refine Oi (.b (r1.2.2 != 0)) ?_
  refine Ni ?_
  refine Ws ?_
  rcases bft (r1.2.2 != 0) with hb4 | hb4
  ·replace hM:=ifT hM hb4
   refine Ct hb4 ?_
   refine Sq ?_
   refine Rg 3 ?_
   refine Om (.i r1.2.2) ?_
   refine Oa (.i 0) ?_
   refine Oa (.i r1.2.2) ?_
   refine Ni ?_
   replace hS:=hS.keep (L':=[]) [false] rfl
   refine Ws ?_
   refine zaS ?_
   refine zao ?_
   refine zbe (x:=.tup [.i 0,.i r1.2.2]) (f:=fun r=>.tup [.i r.1,.i r.2]) (.inr rfl) ?_ (.refl _) (Option.some.inj hM) hS
   exact (zdC (zae (x:=.i 0) rfl) (zae (x:=.i r1.2.2) rfl))
  ·replace hM:=ifF hM hb4
   refine Cf hb4 ?_
   refine zay ?_
   refine Ws ?_
   refine Sq ?_
   refine Rg 5 ?_
   refine Om (.ep (zbL x3 true (g+3+11+19))) ?_
   refine Olg (.agg (Spot_.cells r1.2.1)) zc3 ?_
   obtain ⟨r5,hr5,hM⟩:=zaj hM
   have hndr5:=hS.nd_at (ns:=[0]) (M:=[(g+3+11+19,.obj none (zag (mpv zaq ([]:List (Spot_×Int)))))]) (M':=[(g+3+11+19,.obj none (zag (mpv zaq r5.2)))]) (.cons rfl .nil) (by decide)
   refine zlV (bs:=[.ep (zbL x3 true (g+3+11+19)),.agg (Spot_.cells r1.2.1)]) (M:=[(g+3+11+19,.obj none (zag (mpv zaq ([]:List (Spot_×Int)))))]) (M':=[(g+3+11+19,.obj none (zag (mpv zaq r5.2)))]) (L':=[(g+3+11+19,.obj none (zag (mpv zaq r5.2)))]) [0] (.inl rfl) hS (by decide) rfl rfl ((zf1 (p1:=g+3+11+19) hndr5 hr5).le (.k (.k .nil))) (.cons rfl .nil) rfl (by omega) fun H hS=>?_
   refine Oa (.i r5.1) ?_
   refine Oa (.i 0) ?_
   refine Ni ?_
   replace hS:=hS.keep (L':=[]) [false] rfl
   refine Ws ?_
   refine zaS ?_
   refine zbe (x:=.tup [.i r5.1,.i 0]) (f:=fun r=>.tup [.i r.1,.i r.2]) (.inr rfl) ?_ (.refl _) (Option.some.inj hM) hS
   exact (zdC (zae (x:=.i r5.1) rfl) (zae (x:=.i 0) rfl))
 ·replace hM:=ifF hM hb2
  have hb2':r1.1=none:=by rw [Option.isSome_eq_false_iff,Option.isNone_iff_eq_none] at hb2;exact hb2
  refine zaO (bs:=[.agg (Wheel.cells a0),.sl .no 1 (a1.map cI),.fn (.func 16) [] []]) (by decide) rfl rfl ((zjm (r:=r1.2) (by rw [←hb2'];exact hr1)).le (.k (.k (.k .nil)))) ?_
  refine Om (.tup [.v (.pointer none),.agg (Spot_.cells r1.2.1),.i r1.2.2]) ?_
  refine Ox (.v (.pointer none)) ?_
  refine Ox (.agg (Spot_.cells r1.2.1)) ?_
  refine Ox (.i r1.2.2) ?_
  refine za4 hS (by decide) zdW (by omega) fun H hS=>?_
  refine Oa (.v (.pointer none)) ?_
  refine zaC (v:=.agg (Spot_.cells r1.2.1)) (ns:=(Spot_.cells r1.2.1)) (L':=[(g+3+7,.cells (Spot_.cells r1.2.1))]) 0 hS rfl rfl .no rfl rfl zfI nlb rfl fun H hS=>?_
  refine Oa (.i r1.2.2) ?_
  refine Ni ?_
  refine zaW (L':=[]) 0 7 hS rfl rfl rfl fun H hS=>?_
  refine Ws ?_
  refine Sq ?_
  refine Sq ?_
  refine Rg 2 ?_
  refine Om (.i r1.2.2) ?_
  refine Oi (.b (r1.2.2 != 0)) ?_
  refine Ni ?_
  refine Ws ?_
  rcases bft (r1.2.2 != 0) with hb6 | hb6
  ·replace hM:=ifT hM hb6
   refine Ct hb6 ?_
   refine Sq ?_
   refine Rg 3 ?_
   refine Om (.i r1.2.2) ?_
   refine Oa (.i 0) ?_
   refine Oa (.i r1.2.2) ?_
   refine Ni ?_
   refine Ws ?_
   refine zaS ?_
   refine zao ?_
   refine zbe (x:=.tup [.i 0,.i r1.2.2]) (f:=fun r=>.tup [.i r.1,.i r.2]) (.inr rfl) ?_ (.refl _) (Option.some.inj hM) hS
   exact (zdC (zae (x:=.i 0) rfl) (zae (x:=.i r1.2.2) rfl))
  ·replace hM:=ifF hM hb6
   refine Cf hb6 ?_
   refine zay ?_
   refine Ws ?_
   refine Sq ?_
   refine Rg 5 ?_
   refine Om (.v (.pointer none)) ?_
   refine Olg (.agg (Spot_.cells r1.2.1)) zc3 ?_
   exact nomatch (show none=some _ from hM)
theorem zhb {S:Type} {Lo:S->BL} (hk:∀s s',zg7 (Lo s) (Lo s')) (hnd:∀s,(ids (Lo s)).Nodup) (hin:∀s,InB In (Lo s)) {aF:Int->S->Option (Bool×S)} {f0:AV} (hF:∀s H,Has H (Lo s)->In H f0) (h0:cellsOf f0=some [f0]) (hf:∀{x0:Int} {s:S} {r:Bool×S},aF x0 s=some r->zlo Try.prog f0 [.i x0] (Lo s) (.b r.1) (Lo r.2)) {n:Nat} {a0:List Int} {st:S} {r:Int×S} (hM:zcu n aF a0 st=some r):zhc Try.prog 40 [.sl .no 1 (a0.map cI),f0] (Lo st) (.i r.1) (Lo r.2):=by
 have hnd0:∀s,(ids (Lo s)).Nodup:=fun s=>hnd s
 refine zbE mixed Try.func40 rfl (by decide) Try.ntmps40 (by simp) (hk _ _) (hnd st) ?pure ?cells fun H0 g hf_ hp=>?_
 case pure=>exact fun H _=>(show Go.AM.Pure _ from .v _).inH
 case cells=>exact hin _
 rw [zah]
 change wpA _ _ _ _ (Fr.of [(0,.sl .no 1 (a0.map cI)),(1,f0)]) H0 g
 have hS:=St.startH (L:=([]++Lo st)) hf_ (hnd st) hp
 replace hS:St (fun i=>i<g/\i∉ids (Lo st)) H0 ([]++Lo st) H0 g:=hS
 refine Sq ?_
 refine Rg 1 ?_
 refine Oa (.i 0) ?_
 refine Ni ?_
 refine Ws ?_
 refine zaY (J:=S) (fun j=>[]) (fun j H' g'=>St (fun i=>i<g/\i∉ids (Lo st)) H0 ([]++Lo j) H' g'/\zbm j=some r) ?_ ?_
 ·rintro v1 H g1 ⟨hS,hM⟩
  change wpA _ _ _ _ (Fr.of []) _ _
  replace hS:St (fun i=>i<g/\i∉ids (Lo st)) H0 ([]++Lo v1) H g1:=hS
  replace hM:zbm v1=some r:=hM
  refine Sq ?_
  refine Rg 1 ?_
  refine Oa (.i (-1)) ?_
  refine Ni ?_
  refine Ws ?_
  refine zaS ?_
  refine zdf (x:=.i (-1)) (f:=fun r=>.i r.1) (fd:=fun r=>(Lo r.2)) (.inr rfl) ?_ (.refl _) (Option.some.inj hM) hS 0 rfl
  exact (zaw (zae (x:=.i (-1)) rfl))
 ·refine Sq ?_
  refine Rg 3 ?_
  refine Om (.sl .no 1 (a0.map cI)) ?_
  refine zb9 (n:=a0.length) (by decide) rfl (List.length_map _) zaQ ?_
  refine Om (.i 0) ?_
  refine Ni ?_
  refine Ws ?_
  refine zaB ?_
  refine zco (V:=Int×S) (fun v=>[(0,.sl .no 1 (a0.map cI)),(1,f0),(7,.i (a0.length:Int)),(8,.i v.1)]) (fun v m3 H' g'=>St (fun i=>i<g/\i∉ids (Lo st)) H0 ([]++Lo v.2) H' g'/\zak a0 aF m3 v.1 v.2=some r) (n:=n) (0,st) (.k (.k (.k (.k .nil)))) ⟨(hS.keep [] rfl).up (by omega),hM⟩ ?_
  rintro ⟨v3,v4⟩ m3 H g3 ⟨hS,hM⟩
  obtain _ | m3:=m3
  ·exact nomatch (show none=some _ from hM)
  change wpA _ _ _ _ (Fr.of [(0,.sl .no 1 (a0.map cI)),(1,f0),(7,.i (a0.length:Int)),(8,.i v3)]) _ _
  replace hS:St (fun i=>i<g/\i∉ids (Lo st)) H0 ([]++Lo v4) H g3:=hS
  replace hM:zaZ a0 aF (zak a0 aF m3) v3 v4=some r:=hM
  refine Sq ?_
  refine Rg 1 ?_
  refine Oi (.b (decide (v3<(a0.length:Int)))) ?_
  refine Ni ?_
  refine Ws ?_
  refine Sq ?_
  rcases bft (decide (v3<(a0.length:Int))) with hb5 | hb5
  ·replace hM:=ifT hM hb5
   refine Ct hb5 ?_
   refine zay ?_
   refine Ws ?_
   refine Sq ?_
   refine zaB ?_
   refine Sq ?_
   refine Rg 2 ?_
   refine Om (.i v3) ?_
   refine Oa (.i v3) ?_
   refine Ni ?_
   refine Ws ?_
   refine Sq ?_
   refine Rg 6 ?_
   refine Om (f0) ?_
   refine Om (.sl .no 1 (a0.map cI)) ?_
   refine Om (.i v3) ?_
   obtain ⟨x6,hx6,hM⟩:=zaj hM
   refine za8 (xs:=a0) (f:=cI) (z:=v3) (u:=x6) (by decide) rfl rfl zaP hx6 ?_
   refine Olp (.i x6) zaf zal ?_
   obtain ⟨r7,hr7,hM⟩:=zaj hM
   replace hS:St (fun i=>i<g/\i∉ids (Lo st)) H0 ([]++Lo v4) _ _:=hS
   refine zgW (bs:=[.i x6]) (.inl rfl) hS (by decide) rfl rfl ((hf hr7).le (.k .nil)) (hk _ _).ids (by omega) fun H hS=>?_
   refine Ni ?_
   refine Ws ?_
   rcases bft r7.1 with hb8 | hb8
   ·replace hM:=ifT hM hb8
    refine Ct hb8 ?_
    refine Sq ?_
    refine Rg 2 ?_
    refine Om (.i v3) ?_
    refine Oa (.i v3) ?_
    refine Ni ?_
    refine Ws ?_
    refine zaS ?_
    refine zaV ?_
    refine zao ?_
    refine zbA ?_
    refine zaV ?_
    refine zcn ?_
    refine zdf (x:=.i v3) (f:=fun r=>.i r.1) (fd:=fun r=>(Lo r.2)) (.inr rfl) ?_ (.refl _) (Option.some.inj hM) hS 0 rfl
    exact (zaw (zae (x:=.i v3) rfl))
   ·replace hM:=ifF hM hb8
    refine Cf hb8 ?_
    refine zay ?_
    refine zas ?_
    refine Ws ?_
    refine Rg 2 ?_
    refine Oi (.i (w64 (v3+1))) ?_
    refine Om (.i (w64 (v3+1))) ?_
    refine Ni ?_
    exact zbo (w64 (v3+1),r7.2) (Nat.lt_succ_self _) (.k (.k (.k (.k .nil)))) ⟨(hS.keep [] rfl).up (by omega),hM⟩
  ·replace hM:=ifF hM hb5
   refine Cf hb5 ?_
   refine zb1 ?_
   refine zav ?_
   refine zau ?_
   refine zaD ?_
   exact zai v4 .nil ⟨(hS.keep [] rfl).up (by omega),hM⟩
theorem zc0 {S:Type} {Lo:S->BL} (hk:∀s s',zg7 (Lo s) (Lo s')) (hnd:∀s,(ids (Lo s)).Nodup) (hin:∀s,InB In (Lo s)) {aF:Int->S->Option (Bool×S)} {f0:AV} (hF:∀s H,Has H (Lo s)->In H f0) (h0:cellsOf f0=some [f0]) (hf:∀{x0:Int} {s:S} {r:Bool×S},aF x0 s=some r->zlo Try.prog f0 [.i x0] (Lo s) (.b r.1) (Lo r.2)) {n:Nat} {a0:List Int} {st:S} {r:Bool×S} (hM:zaX n aF a0 st=some r):zhc Try.prog 30 [.sl .no 1 (a0.map cI),f0] (Lo st) (.b r.1) (Lo r.2):=by
 have hnd0:∀s,(ids (Lo s)).Nodup:=fun s=>hnd s
 refine zbE mixed Try.func30 rfl (by decide) Try.ntmps30 (by simp) (hk _ _) (hnd st) ?pure ?cells fun H0 g hf_ hp=>?_
 case pure=>exact fun H _=>(show Go.AM.Pure _ from .v _).inH
 case cells=>exact hin _
 rw [zah]
 change wpA _ _ _ _ (Fr.of [(0,.sl .no 1 (a0.map cI)),(1,f0)]) H0 g
 have hS:=St.startH (L:=([]++Lo st)) hf_ (hnd st) hp
 replace hS:St (fun i=>i<g/\i∉ids (Lo st)) H0 ([]++Lo st) H0 g:=hS
 refine Sq ?_
 refine Rg 1 ?_
 refine Oa (.b false) ?_
 refine Ni ?_
 refine Ws ?_
 refine Sq ?_
 refine Rg 5 ?_
 refine Om (.sl .no 1 (a0.map cI)) ?_
 refine Om (f0) ?_
 obtain ⟨r1,hr1,hM⟩:=zaj hM
 replace hS:St (fun i=>i<g/\i∉ids (Lo st)) H0 ([]++Lo st) _ _:=hS
 refine ziE (bs:=[.sl .no 1 (a0.map cI),f0]) (.inl rfl) hS (by decide) rfl rfl ((zhb (Lo:=Lo)  hk hnd0 hin (aF:=aF) hF h0 hf hr1).le (.k (.k .nil))) (hk _ _).ids (by omega) fun H hS=>?_
 refine Oi (.b (decide (r1.1≥0))) ?_
 refine Oa (.b (decide (r1.1≥0))) ?_
 refine Ni ?_
 refine zg8 [(4,.b (decide (r1.1≥0)))] (.k .nil) ?_
 refine zaS ?_
 refine zdf (x:=.b (decide (r1.1≥0))) (f:=fun r=>.b r.1) (fd:=fun r=>(Lo r.2)) (.inr rfl) ?_ (.refl _) (Option.some.inj hM) hS 0 rfl
 exact (zaw (zae (x:=.b (decide (r1.1≥0))) rfl))
theorem zeo {a0:Int} {a1:Int} {a2:Int} {r:Bool} (hM:zcY a0 a1 a2=some r):zaR Try.prog 51 [.i a0,.i a1,.i a2] (.b r):=by
 refine zaz mixed Try.func51 rfl (by decide) Try.ntmps51 (by simp) ?pure fun H0 g hf=>?_
 case pure=>exact .v _
 rw [zah]
 change wpA _ _ _ _ (Fr.of [(0,.i a0),(1,.i a1),(2,.i a2)]) H0 g
 have hS:=St.start hf
 refine Sq ?_
 refine Rg 1 ?_
 refine Oa (.b false) ?_
 refine Ni ?_
 refine Ws ?_
 refine zaY (J:=Bool) (fun j=>[(6,.b j)]) (fun j H' g'=>St (·<g) H0 [] H' g'/\zc6 j=some r) ?_ ?_
 ·rintro v1 H g1 ⟨hS,hM⟩
  change wpA _ _ _ _ (Fr.of [(6,.b v1)]) _ _
  replace hS:St (·<g) H0 [] H g1:=hS
  replace hM:zc6 v1=some r:=hM
  refine zaS ?_
  refine zbe (x:=.b v1) (f:=fun r=>.b r) (.inr rfl) ?_ (.refl _) (Option.some.inj hM) hS
  exact (zaw (zae (x:=.b v1) rfl))
 ·refine Rg 9 ?_
  refine Om (.i a1) ?_
  refine Om (.i a0) ?_
  refine Oi (.b (decide (a1<=a0))) ?_
  refine Om (.b (decide (a1<=a0))) ?_
  rcases bft (decide (a1<=a0)) with hb2 | hb2
  ·replace hM:=ifT hM hb2
   refine Oy (want:=true) hb2 ?_
   refine Om (.i a0) ?_
   refine Oy (want:=true) hb2 ?_
   refine Om (.i a2) ?_
   refine Oy (want:=true) hb2 ?_
   refine Oi (.b (decide (a0<=a2))) ?_
   refine Pt (.b (decide (a0<=a2))) hb2 ?_
   refine Oa (.b (decide (a0<=a2))) ?_
   refine Ni ?_
   exact zai (decide (a0<=a2)) (.k .nil) ⟨(hS.keep [] rfl).up (by omega),hM⟩
  ·replace hM:=ifF hM hb2
   refine On (want:=true) hb2 ?_
   refine On (want:=true) hb2 ?_
   refine On (want:=true) hb2 ?_
   refine Pf (.b false) hb2 ?_
   refine Oa (.b false) ?_
   refine Ni ?_
   exact zai false (.k .nil) ⟨(hS.keep [] rfl).up (by omega),hM⟩
theorem zi4 {a0:Int} {r:Bool} (hM:zdt a0=some r):zaR Try.prog 52 [.i a0] (.b r):=by
 refine zaz mixed Try.func52 rfl (by decide) Try.ntmps52 (by simp) ?pure fun H0 g hf=>?_
 case pure=>exact .v _
 rw [zah]
 change wpA _ _ _ _ (Fr.of [(0,.i a0)]) H0 g
 have hS:=St.start hf
 refine Sq ?_
 refine Rg 1 ?_
 refine Oa (.b false) ?_
 refine Ni ?_
 refine Ws ?_
 refine Sq ?_
 refine Rg 4 ?_
 refine Om (.i a0) ?_
 obtain ⟨r1,hr1,hM⟩:=zaj hM
 refine zaO (bs:=[.i a0,.i 0,.i 12]) (by decide) rfl rfl ((zeo hr1).le (.k (.k (.k .nil)))) ?_
 refine zc5 (e:=r1) (by decide) rfl ?_
 refine Oa (.b (!r1)) ?_
 refine Ni ?_
 refine Ws ?_
 refine zaS ?_
 refine zbe (x:=.b (!r1)) (f:=fun r=>.b r) (.inr rfl) ?_ (.refl _) (Option.some.inj hM) hS
 exact (zaw (zae (x:=.b (!r1)) rfl))
end Go.Proofs.Ytchhkifidbkjcaa
