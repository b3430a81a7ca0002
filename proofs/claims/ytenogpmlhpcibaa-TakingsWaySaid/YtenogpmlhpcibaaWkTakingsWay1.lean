/-
  The code returns what the functions say (printed by gen.py).
  Conditions: none.
-/
import Derived.Test.YtenogpmlhpcibaaTy
import Derived.Test.YtenogpmlhpcibaaMd
import Derived.Test.YtenogpmlhpcibaaAmOx
import Derived.Test.YtenogpmlhpcibaaSh
import Derived.Test.YtenogpmlhpcibaaKs
import Derived.Test.YtenogpmlhpcibaaEn
set_option linter.all false
namespace Go.Proofs.Ytenogpmlhpcibaa
open Go Go.AM Go.Law
set_option linter.unusedVariables false
set_option maxRecDepth 4000
set_option maxHeartbeats 4000000
abbrev _root_.Go.AM.AV.i (x:Int):Go.AM.AV:=.v (.int .i64 x)
abbrev _root_.Go.AM.AV.b (x:Bool):Go.AM.AV:=.v (.bool x)
theorem _root_.Go.AM.FLe.k {l l0:List (Nat×AV)} {t:Nat} (r:FLe l l0):FLe l ((t,lk l t)::l0):=.cons (.refl _) r
theorem _root_.Go.AM.LeL.k {a:AV} {ps qs:List AV} (r:LeL ps qs):LeL (a::ps) (a::qs):=.cons (.refl _) r
section
open Go.AM
variable {P:Program} {N:Nat} {l:List (Nat×AV)} {H:zac} {g:Nat} {ops:Array Oper} {i d g0:Nat} {r:List Oper} {K:Fr->zac->Nat->Prop} {lim:Option Nat} {ty:TypeId} {pos:String} {after:Array Edge} {Q:Exit->Fr->zac->Nat->Prop} {a b:Code}
theorem _root_.Go.AM.Om {x:Operand} (v:AV) (h:zaT P N lim g0 ops K (i+1) r (Fr.of ((d,v)::l)) H g) (hd:d<N:=by decide) (hx:evL N l x=v:=by rfl):zaT P N lim g0 ops K i (⟨some d,.move x,ty,pos,after,none⟩::r) (Fr.of l) H g:=zv3 hd hx h
theorem _root_.Go.AM.Oa {x:Operand} (v:AV) (h:zaT P N lim g0 ops K (i+1) r (Fr.of ((d,v)::l)) H g) (hd:d<N:=by decide) (hx:evL N l x=v:=by rfl):zaT P N lim g0 ops K i (⟨some d,.assign x,ty,pos,after,none⟩::r) (Fr.of l) H g:=ztp hd hx h
theorem _root_.Go.AM.Olp {t:TypeId} {x:Operand} {cs:List AV} (v:AV) (h1:zap P t=none) (h2:scalar P t=true) (h:zaT P N lim g0 ops K (i+1) r (Fr.of ((d,v)::l)) H g) (hd:d<N:=by decide) (hx:evL N l x=.ep cs:=by rfl) (hc:cs[0]?=some v:=by rfl):zaT P N lim g0 ops K i (⟨some d,.load t x,ty,pos,after,none⟩::r) (Fr.of l) H g:=zos hd hx (ziG h1 h2 hc) h
theorem _root_.Go.AM.Olg {t:TypeId} {x:Operand} {cs:List AV} {k:Nat} (v:AV) (ha:zap P t=some k) (h:zaT P N lim g0 ops K (i+1) r (Fr.of ((d,v)::l)) H g) (hd:d<N:=by decide) (hx:evL N l x=.ep cs:=by rfl) (hk:Nat.ble (0+k) cs.length=true:=by rfl) (hc:AV.agg ((cs.drop 0).take k)=v:=by rfl):zaT P N lim g0 ops K i (⟨some d,.load t x,ty,pos,after,none⟩::r) (Fr.of l) H g:=zos hd hx (zpb ha (Nat.le_of_ble_eq_true hk) rfl) (hc▸h)
theorem _root_.Go.AM.Og {op:Op} {j:Nat} {want:Bool} (h:zaT P N lim g0 ops K (i+1) r (Fr.of ((d,.tup [])::l)) H g) (hd:d<N:=by decide) (hg:gd ops N (Fr.of l) j=some (some (!want)):=by rfl):zaT P N lim g0 ops K i (⟨some d,op,ty,pos,after,some (j,want)⟩::r) (Fr.of l) H g:=zb7 hd hg rfl h
theorem _root_.Go.AM.On {op:Op} {j:Nat} {want e:Bool} (he:e=!want) (h:zaT P N lim g0 ops K (i+1) r (Fr.of ((d,.tup [])::l)) H g) (hd:d<N:=by decide) (hg:gd ops N (Fr.of l) j=some (some e):=by rfl):zaT P N lim g0 ops K i (⟨some d,op,ty,pos,after,some (j,want)⟩::r) (Fr.of l) H g:=zb7 hd hg he h
theorem _root_.Go.AM.Oy {op:Op} {j:Nat} {want e:Bool} {dst:Option Tmp} (he:e=want) (h:zaT P N lim g0 ops K i (⟨dst,op,ty,pos,after,none⟩::r) (Fr.of l) H g) (hg:gd ops N (Fr.of l) j=some (some e):=by rfl):zaT P N lim g0 ops K i (⟨dst,op,ty,pos,after,some (j,want)⟩::r) (Fr.of l) H g:=zto hg he h
theorem _root_.Go.AM.Oi {bo:BinOp} {t t':TypeId} {x y:Operand} {k:IntKind} {m n:Int} (v:AV) (h:zaT P N lim g0 ops K (i+1) r (Fr.of ((d,v)::l)) H g) (hd:d<N:=by decide) (hx:evL N l x=.v (.int k m):=by rfl) (hy:evL N l y=.v (.int k n):=by rfl) (hv:zix bo k m n=some v:=by rfl):zaT P N lim g0 ops K i (⟨some d,.binOp bo t x y t',ty,pos,after,none⟩::r) (Fr.of l) H g:=zni hd hx hy hv h
theorem _root_.Go.AM.Ox {x:Operand} {n:Nat} {vs:List AV} (v:AV) (h:zaT P N lim g0 ops K (i+1) r (Fr.of ((d,v)::l)) H g) (hd:d<N:=by decide) (hx:evL N l x=.tup vs:=by rfl) (hn:vs[n]?=some v:=by rfl):zaT P N lim g0 ops K i (⟨some d,.extract x n,ty,pos,after,none⟩::r) (Fr.of l) H g:=zrI hd hx hn h
theorem _root_.Go.AM.Of {s f:Nat} {x:Operand} (cs:List AV) {k:Nat} (hk:zaq P s f=some k) (h:zaT P N lim g0 ops K (i+1) r (Fr.of ((d,.ep (cs.drop k))::l)) H g) (hd:d<N:=by decide) (hx:evL N l x=.ep cs:=by rfl):zaT P N lim g0 ops K i (⟨some d,.fieldAddr s x f,ty,pos,after,none⟩::r) (Fr.of l) H g:=ztq hd hk hx h
theorem _root_.Go.AM.Pt {c x y:Operand} (v:AV) {e:Bool} (he:e=true) (h:zaT P N lim g0 ops K (i+1) r (Fr.of ((d,v)::l)) H g) (hd:d<N:=by decide) (hc:evL N l c=.v (.bool e):=by rfl) (hx:evL N l x=v:=by rfl):zaT P N lim g0 ops K i (⟨some d,.pick c x y,ty,pos,after,none⟩::r) (Fr.of l) H g:=zcW hd hc he hx h
theorem _root_.Go.AM.Pf {c x y:Operand} (v:AV) {e:Bool} (he:e=false) (h:zaT P N lim g0 ops K (i+1) r (Fr.of ((d,v)::l)) H g) (hd:d<N:=by decide) (hc:evL N l c=.v (.bool e):=by rfl) (hy:evL N l y=v:=by rfl):zaT P N lim g0 ops K i (⟨some d,.pick c x y,ty,pos,after,none⟩::r) (Fr.of l) H g:=zaS hd hc he hy h
theorem _root_.Go.AM.Ct {o:Operand} {e:Bool} (he:e=true) (h:wpA P N a Q (Fr.of l) H g) (hc:evL N l o=.v (.bool e):=by rfl):wpA P N (.cond o a b) Q (Fr.of l) H g:=zkH hc he h
theorem _root_.Go.AM.Cf {o:Operand} {e:Bool} (he:e=false) (h:wpA P N b Q (Fr.of l) H g) (hc:evL N l o=.v (.bool e):=by rfl):wpA P N (.cond o a b) Q (Fr.of l) H g:=zg6 hc he h
theorem _root_.Go.AM.Rg {id:Nat} {os:List Oper} (n:Nat) (h:zaT P N none g os.toArray (Q .normal) 0 os (Fr.of l) H (g+n)) (hn:os.length=n:=by rfl):wpA P N (.region id os.toArray false) Q (Fr.of l) H g:=ztl hn h
theorem _root_.Go.AM.Ws (h:wpA P N b Q (Fr.of l) H g):Exit.thenA (fun fr' H' g'=>∃fr0 H0 g0,zkn fr' H' g' fr0 H0 g0/\wpA P N b Q fr0 H0 g0) Q .normal (Fr.of l) H g:=⟨_,H,g,.le (fun _=>.refl _) H g,h⟩
theorem _root_.Go.AM.Sq (h:wpA P N a (Exit.thenA (fun fr' H' g'=>∃fr0 H0 g0,zkn fr' H' g' fr0 H0 g0/\wpA P N b Q fr0 H0 g0) Q) (Fr.of l) H g):wpA P N (.seq a b) Q (Fr.of l) H g:=zvZ h
theorem _root_.Go.AM.Ni (h:K (Fr.of l) H g):zaT P N lim g0 ops K i [] (Fr.of l) H g:=zuA h
theorem _root_.Go.AM.pg {t:TypeId} {cs ds:List AV} {off k:Nat} (h:zap P t=some k) (hl:off+k<=cs.length:=by exact Nat.le_of_ble_eq_true rfl) (hc:(cs.drop off).take k=ds:=by rfl):zeU P t cs off=some (.agg ds):=zpb h hl hc
theorem _root_.Go.AM.po {t:TypeId} {cs:List AV} {off:Nat} {v:AV} (h:zap P t=none) (hs:scalar P t=true) (hc:cs[off]?=some v:=by rfl):zeU P t cs off=some v:=ziG h hs hc
theorem _root_.Go.AM.bft (b:Bool):b=true\/b=false:=Bool.eq_false_or_eq_true b
theorem _root_.Go.AM.nlb {a b:Nat} (h:Nat.ble a b=true:=by rfl):a<=b:=Nat.le_of_ble_eq_true h
end
theorem zsr:KeysAre Try.prog 110 zg7 zan where
 keyed:=Go.Maps.Keyed.of_law (deep_law_laid (show laidOutB Try.prog=true by kernel_rfl) (m:=6) (by omega) (of_decide_eq_true (by kernel_rfl)) (by kernel_rfl) (by kernel_rfl))
 inj:=fun a b h=>by
  obtain ⟨⟨a1,a2,a3,a4⟩,a5,a6⟩:=a
  obtain ⟨⟨b1,b2,b3,b4⟩,b5,b6⟩:=b
  have h:=zrU h
  simp only [List.cons.injEq,and_true] at h
  obtain ⟨rfl,rfl,rfl,rfl,rfl,rfl⟩:=h
  rfl
 key:=fun x h=>zkR (by kernel_rfl) (by kernel_rfl) (by kernel_rfl) (show List.length _=_ by kernel_rfl) h
theorem zk6:KeysAre Try.prog 155 zbG zad where
 keyed:=Go.Maps.Keyed.of_law (deep_law_laid (show laidOutB Try.prog=true by kernel_rfl) (m:=6) (by omega) (of_decide_eq_true (by kernel_rfl)) (by kernel_rfl) (by kernel_rfl))
 inj:=fun a b h=>by
  obtain ⟨⟨a1,a2⟩,⟨a3,a4,a5,a6⟩,a7⟩:=a
  obtain ⟨⟨b1,b2⟩,⟨b3,b4,b5,b6⟩,b7⟩:=b
  have h:=zrU h
  simp only [List.cons.injEq,and_true] at h
  obtain ⟨rfl,rfl,rfl,rfl,rfl,rfl,rfl⟩:=h
  rfl
 key:=fun x h=>zkR (by kernel_rfl) (by kernel_rfl) (by kernel_rfl) (show List.length _=_ by kernel_rfl) h
theorem zA1:Try.prog.underlying 3=some (.int .i64):=by kernel_rfl
theorem zuQ:KeysAre Try.prog 3 okI kvI:=⟨Go.Maps.int_keyed zA1,fun a b h=>by injection h,fun a h=>⟨_,Go.Maps.keyOf_int_mk zA1 h⟩⟩
theorem znC {a0:Int} {a1:Int} {r:Bool} (hM:zlV a0 a1=some r):zaH Try.prog 78 [.i a0,.i a1] (.b r):=by
 refine zak mixed Try.func78 rfl (by decide) Try.ntmps78 (by simp) ?pure fun H0 g hf=>?_
 case pure=>exact .v _
 rw [zag]
 change wpA _ _ _ _ (Fr.of [(0,.i a0),(1,.i a1)]) H0 g
 have hS:=St.start hf
 refine Sq ?_
 refine Rg 1 ?_
 refine Oa (.b false) ?_
 refine Ni ?_
 refine Ws ?_
 refine Sq ?_
 refine Rg 4 ?_
 refine Om (.i a0) ?_
 refine Om (.i a1) ?_
 refine Oi (.b (decide (a0<a1))) ?_
 refine Oa (.b (decide (a0<a1))) ?_
 refine Ni ?_
 refine zeF [(4,.b (decide (a0<a1)))] (.k .nil) ?_
 refine zaR ?_
 refine zaZ (x:=.b (decide (a0<a1))) (f:=fun r=>.b r) (.inr rfl) ?_ (.refl _) (Option.some.inj hM) hS
 exact (zax (zae (x:=.b (decide (a0<a1))) rfl))
theorem znD {a0:Int} {a1:Int} {r:Bool} (hM:zlW a0 a1=some r):zaH Try.prog 80 [.i a0,.i a1] (.b r):=by
 refine zak mixed Try.func80 rfl (by decide) Try.ntmps80 (by simp) ?pure fun H0 g hf=>?_
 case pure=>exact .v _
 rw [zag]
 change wpA _ _ _ _ (Fr.of [(0,.i a0),(1,.i a1)]) H0 g
 have hS:=St.start hf
 refine Sq ?_
 refine Rg 1 ?_
 refine Oa (.b false) ?_
 refine Ni ?_
 refine Ws ?_
 refine Sq ?_
 refine Rg 4 ?_
 refine Om (.i a0) ?_
 refine Om (.i a1) ?_
 refine Oi (.b (decide (a0>a1))) ?_
 refine Oa (.b (decide (a0>a1))) ?_
 refine Ni ?_
 refine Ws ?_
 refine zaR ?_
 refine zaZ (x:=.b (decide (a0>a1))) (f:=fun r=>.b r) (.inr rfl) ?_ (.refl _) (Option.some.inj hM) hS
 exact (zax (zae (x:=.b (decide (a0>a1))) rfl))
theorem zlA {b:Bool} {x y:Int} {r:Bool} (hM:zhB b x y=some r):zaH Try.prog (cond b 80 78) [.i x,.i y] (.b r):=by
 cases b with
 | true=>exact znD hM
 | false=>exact znC hM
abbrev fnB (b:Bool):AV:=.fn (.func (cond b 80 78)) [] []
abbrev zbu (x:Go.Law.Wheel_) (b:Bool) (i:Nat):List Go.AM.AV:=[.i x.Wheel.Round,.sl .no 1 (x.Wheel.Notches.map cI),.sl .no 1 (x.Wheel.Coins.map cI),fnB b,.mp i]
theorem zpD (b:Bool):Go.AM.Pure (fnB b):=.fn _ _ _ (fun c h=>by simp at h) (fun c h=>by simp at h)
theorem zjR {n:Nat} {a0:List Int} {a1:List Int} {r:(List Int)} (hM:zhT n a0 a1=some r):zaH Try.prog 66 [.sl .no 1 (a0.map cI),.sl .no 1 (a1.map cI)] (.sl .no 1 (r.map cI)):=by
 refine zak mixed Try.func66 rfl (by decide) Try.ntmps66 (by simp) ?pure fun H0 g hf=>?_
 case pure=>exact .sl _ _ (zav (fun x=>(zab (.v _) zaF)))
 rw [zag]
 change wpA _ _ _ _ (Fr.of [(0,.sl .no 1 (a0.map cI)),(1,.sl .no 1 (a1.map cI))]) H0 g
 have hS:=St.start hf
 refine Sq ?_
 refine Rg 1 ?_
 refine Oa (.sl .nil 0 []) ?_
 refine Ni ?_
 refine Ws ?_
 refine Sq ?_
 refine Rg 1 ?_
 refine Oa (.sl .nil 0 []) ?_
 refine Ni ?_
 refine zv2 [(0,.sl .no 1 (a0.map cI)),(1,.sl .no 1 (a1.map cI)),(5,.sl (.id (g+1+1)) 1 (([]:List Int).map cI))] 5 1 3 hS (by omega) (by decide) rfl (.k (.k (.k .nil))) fun H hS=>?_
 refine za1 (J:=(List Int)) (fun j=>[(5,.sl (.id (g+1+1)) 1 (j.map cI))]) (fun j H' g'=>St (·<g) H0 [(g+1+1,.row 3 j.length)] H' g'/\zfI j=some r) ?_ ?_
 ·rintro v1 H g1 ⟨hS,hM⟩
  change wpA _ _ _ _ (Fr.of [(5,.sl (.id (g+1+1)) 1 (v1.map cI))]) _ _
  replace hS:St (·<g) H0 [(g+1+1,.row 3 v1.length)] H g1:=hS
  replace hM:zfI v1=some r:=hM
  refine Sq ?_
  refine Rg 2 ?_
  refine Om (.sl (.id (g+1+1)) 1 (v1.map cI)) ?_
  refine Oa (.sl (.id (g+1+1)) 1 (v1.map cI)) ?_
  refine Ni ?_
  refine Ws ?_
  refine zaR ?_
  refine zaZ (x:=.sl (.id (g+1+1)) 1 (v1.map cI)) (f:=fun r=>.sl .no 1 (r.map cI)) (.inr rfl) ?_ (.sl _ _ _) (Option.some.inj hM) hS
  exact (zax (zae (x:=.sl (.id (g+1+1)) 1 (v1.map cI)) rfl))
 ·refine Sq ?_
  refine Rg 1 ?_
  refine Oa (.i 0) ?_
  refine Ni ?_
  refine Ws ?_
  refine zaK ?_
  refine zct (V:=(List Int)×Int) (fun v=>[(0,.sl .no 1 (a0.map cI)),(1,.sl .no 1 (a1.map cI)),(5,.sl (.id (g+1+1)) 1 (v.1.map cI)),(6,.i v.2)]) (fun v m2 H' g'=>St (·<g) H0 [(g+1+1,.row 3 v.1.length)] H' g'/\zdb a0 a1 m2 v.1 v.2=some r) (n:=n) (([]:List Int),0) (.k (.k (.k (.k .nil)))) ⟨(hS.keep [true] rfl).up (by omega),hM⟩ ?_
  rintro ⟨v2,v3⟩ m2 H g2 ⟨hS,hM⟩
  obtain _ | m2:=m2
  ·exact nomatch (show none=some _ from hM)
  change wpA _ _ _ _ (Fr.of [(0,.sl .no 1 (a0.map cI)),(1,.sl .no 1 (a1.map cI)),(5,.sl (.id (g+1+1)) 1 (v2.map cI)),(6,.i v3)]) _ _
  replace hS:St (·<g) H0 [(g+1+1,.row 3 v2.length)] H g2:=hS
  replace hM:zeG a0 a1 (zdb a0 a1 m2) v2 v3=some r:=hM
  refine Sq ?_
  refine Sq ?_
  refine Rg 4 ?_
  refine Om (.i v3) ?_
  refine Om (.sl .no 1 (a0.map cI)) ?_
  refine zbA (n:=a0.length) (by decide) rfl (List.length_map _) zaB ?_
  refine Oi (.b (decide (v3<(a0.length:Int)))) ?_
  refine Ni ?_
  refine Ws ?_
  rcases bft (decide (v3<(a0.length:Int))) with hb4 | hb4
  ·replace hM:=ifT hM hb4
   refine Ct hb4 ?_
   refine zaD ?_
   refine Ws ?_
   refine Sq ?_
   refine zaK ?_
   have hS0:=hS
   refine zck (n:=13) rfl (by kernel_rfl) ?_
   refine Om (.sl (.id (g+1+1)) 1 (v2.map cI)) ?_
   refine Om (.sl .no 1 (a0.map cI)) ?_
   refine Om (.i v3) ?_
   obtain ⟨x5,hx5,hM⟩:=zai hM
   refine za5 (xs:=a0) (f:=cI) (z:=v3) (u:=x5) (by decide) rfl rfl zay hx5 ?_
   refine Olp (.i x5) zah zar ?_
   refine Om (.sl .no 1 (a1.map cI)) ?_
   refine Om (.i v3) ?_
   obtain ⟨x6,hx6,hM⟩:=zai hM
   refine za5 (xs:=a1) (f:=cI) (z:=v3) (u:=x6) (by decide) rfl rfl zay hx6 ?_
   refine Olp (.i x6) zah zar ?_
   refine Oi (.i (w64 (x5+x6))) ?_
   refine zaW (es:=[[.i (w64 (x5+x6))]]) hS (by decide) zay zbn rfl zbi rfl (by decide) (by omega) fun H hS=>?_
   obtain ⟨l7,hl7,hM⟩:=zai hM
   refine zed (xs:=v2) (ys:=([w64 (x5+x6)]:List Int)) (zs:=l7) (f:=cI) (L':=[(g2+4+10,.row 3 1),(g+1+1,.row 3 l7.length)]) 1 hS (by decide) rfl rfl rfl rfl (.st hS0 0 rfl (by omega)) zay zbn zbi hl7 rfl fun H hS=>?_
   refine Oa (.sl (.id (g+1+1)) 1 (l7.map cI)) ?_
   refine Ni ?_
   refine zat ?_
   replace hS:=hS.keep (L':=[(g+1+1,.row 3 l7.length)]) [false,true] rfl
   refine Ws ?_
   refine Rg 3 ?_
   refine Om (.i v3) ?_
   refine Oi (.i (w64 (v3+1))) ?_
   refine Oa (.i (w64 (v3+1))) ?_
   refine Ni ?_
   exact zbq (l7,w64 (v3+1)) (Nat.lt_succ_self _) (.k (.k (.k (.k .nil)))) ⟨(hS.keep [true] rfl).up (by omega),hM⟩
  ·replace hM:=ifF hM hb4
   refine Cf hb4 ?_
   refine zb1 ?_
   refine zaA ?_
   refine zaz ?_
   refine zaL ?_
   exact zal v2 (.k .nil) ⟨(hS.keep [true] rfl).up (by omega),hM⟩
theorem zoF {n:Nat} {a0:Box} {r:(List Int)} (hM:ziI n a0=some r):zaH Try.prog 29 [.agg (Box.cells a0)] (.sl .no 1 (r.map cI)):=by
 refine zak mixed Try.func29 rfl (by decide) Try.ntmps29 (by simp) ?pure fun H0 g hf=>?_
 case pure=>exact .sl _ _ (zav (fun x=>(zab (.v _) zaF)))
 rw [zag]
 change wpA _ _ _ _ (Fr.of [(0,.agg (Box.cells a0))]) H0 g
 have hS:=St.start hf
 refine Sq ?_
 refine Rg 2 ?_
 refine zb4 (v:=.agg (Box.cells a0)) (cs:=(Box.cells a0)) hS (by decide) rfl rfl (by omega) fun H hS=>?_
 refine Oa (.sl .nil 0 []) ?_
 refine Ni ?_
 refine zaX (L':=[]) 0 1 hS rfl rfl rfl fun H hS=>?_
 refine Ws ?_
 refine Sq ?_
 refine Rg 6 ?_
 refine Of ((Box.cells a0)) zcU ?_
 refine Olp (.sl .no 1 (a0.Found.map cI)) zau zaO ?_
 refine Of ((Box.cells a0)) zd9 ?_
 refine Olp (.sl .no 1 (a0.Slugs.map cI)) zau zaO ?_
 obtain ⟨r1,hr1,hM⟩:=zai hM
 refine zaE (bs:=[.sl .no 1 (a0.Found.map cI),.sl .no 1 (a0.Slugs.map cI)]) (by decide) rfl rfl ((zjR hr1).le (.k (.k .nil))) ?_
 refine Oa (.sl .no 1 (r1.map cI)) ?_
 refine Ni ?_
 refine zeF [(2,.sl .no 1 (r1.map cI))] (.k .nil) ?_
 refine zaR ?_
 refine zaZ (x:=.sl .no 1 (r1.map cI)) (f:=fun r=>.sl .no 1 (r.map cI)) (.inr rfl) ?_ (.refl _) (Option.some.inj hM) hS
 exact (zax (zae (x:=.sl .no 1 (r1.map cI)) rfl))
theorem zea {a0:Int} {a1:Int} {a2:Int} {r:Bool} (hM:zc9 a0 a1 a2=some r):zaH Try.prog 75 [.i a0,.i a1,.i a2] (.b r):=by
 refine zak mixed Try.func75 rfl (by decide) Try.ntmps75 (by simp) ?pure fun H0 g hf=>?_
 case pure=>exact .v _
 rw [zag]
 change wpA _ _ _ _ (Fr.of [(0,.i a0),(1,.i a1),(2,.i a2)]) H0 g
 have hS:=St.start hf
 refine Sq ?_
 refine Rg 1 ?_
 refine Oa (.b false) ?_
 refine Ni ?_
 refine Ws ?_
 refine za1 (J:=Bool) (fun j=>[(6,.b j)]) (fun j H' g'=>St (·<g) H0 [] H' g'/\zdK j=some r) ?_ ?_
 ·rintro v1 H g1 ⟨hS,hM⟩
  change wpA _ _ _ _ (Fr.of [(6,.b v1)]) _ _
  replace hS:St (·<g) H0 [] H g1:=hS
  replace hM:zdK v1=some r:=hM
  refine zaR ?_
  refine zaZ (x:=.b v1) (f:=fun r=>.b r) (.inr rfl) ?_ (.refl _) (Option.some.inj hM) hS
  exact (zax (zae (x:=.b v1) rfl))
 ·refine Rg 9 ?_
  refine Om (.i a0) ?_
  refine Om (.i a1) ?_
  refine Oi (.b (decide (a0≥a1))) ?_
  refine Om (.b (decide (a0≥a1))) ?_
  rcases bft (decide (a0≥a1)) with hb2 | hb2
  ·replace hM:=ifT hM hb2
   refine Oy (want:=true) hb2 ?_
   refine Om (.i a0) ?_
   refine Oy (want:=true) hb2 ?_
   refine Om (.i a2) ?_
   refine Oy (want:=true) hb2 ?_
   refine Oi (.b (decide (a0<=a2))) ?_
   refine Pt (.b (decide (a0<=a2))) hb2 ?_
   refine Oa (.b (decide (a0<=a2))) ?_
   refine Ni ?_
   exact zal (decide (a0<=a2)) (.k .nil) ⟨(hS.keep [] rfl).up (by omega),hM⟩
  ·replace hM:=ifF hM hb2
   refine On (want:=true) hb2 ?_
   refine On (want:=true) hb2 ?_
   refine On (want:=true) hb2 ?_
   refine Pf (.b false) hb2 ?_
   refine Oa (.b false) ?_
   refine Ni ?_
   exact zal false (.k .nil) ⟨(hS.keep [] rfl).up (by omega),hM⟩
theorem zic {n:Nat} {a0:List Int} {a1:Int} {a2:Int} {r:Bool} (hM:zgl n a0 a1 a2=some r):zaH Try.prog 76 [.sl .no 1 (a0.map cI),.i a1,.i a2] (.b r):=by
 refine zak mixed Try.func76 rfl (by decide) Try.ntmps76 (by simp) ?pure fun H0 g hf=>?_
 case pure=>exact .v _
 rw [zag]
 change wpA _ _ _ _ (Fr.of [(0,.sl .no 1 (a0.map cI)),(1,.i a1),(2,.i a2)]) H0 g
 have hS:=St.start hf
 refine Sq ?_
 refine Rg 1 ?_
 refine Oa (.b false) ?_
 refine Ni ?_
 refine Ws ?_
 refine za1 (J:=Unit) (fun j=>[]) (fun j H' g'=>St (·<g) H0 [] H' g'/\zeH=some r) ?_ ?_
 ·rintro _ H g1 ⟨hS,hM⟩
  change wpA _ _ _ _ (Fr.of []) _ _
  replace hS:St (·<g) H0 [] H g1:=hS
  replace hM:zeH=some r:=hM
  refine Sq ?_
  refine Rg 1 ?_
  refine Oa (.b true) ?_
  refine Ni ?_
  refine Ws ?_
  refine zaR ?_
  refine zaZ (x:=.b true) (f:=fun r=>.b r) (.inr rfl) ?_ (.refl _) (Option.some.inj hM) hS
  exact (zax (zae (x:=.b true) rfl))
 ·refine Sq ?_
  refine Rg 1 ?_
  refine Oa (.i 0) ?_
  refine Ni ?_
  refine Ws ?_
  refine zaK ?_
  refine zct (V:=Int) (fun v=>[(0,.sl .no 1 (a0.map cI)),(1,.i a1),(2,.i a2),(7,.i v)]) (fun v m2 H' g'=>St (·<g) H0 [] H' g'/\zbO a0 a1 a2 m2 v=some r) (n:=n) 0 (.k (.k (.k (.k .nil)))) ⟨(hS.keep [] rfl).up (by omega),hM⟩ ?_
  rintro v1 m2 H g2 ⟨hS,hM⟩
  obtain _ | m2:=m2
  ·exact nomatch (show none=some _ from hM)
  change wpA _ _ _ _ (Fr.of [(0,.sl .no 1 (a0.map cI)),(1,.i a1),(2,.i a2),(7,.i v1)]) _ _
  replace hS:St (·<g) H0 [] H g2:=hS
  replace hM:zdT a0 a1 a2 (zbO a0 a1 a2 m2) v1=some r:=hM
  refine Sq ?_
  refine Sq ?_
  refine Rg 4 ?_
  refine Om (.i v1) ?_
  refine Om (.sl .no 1 (a0.map cI)) ?_
  refine zbA (n:=a0.length) (by decide) rfl (List.length_map _) zaB ?_
  refine Oi (.b (decide (v1<(a0.length:Int)))) ?_
  refine Ni ?_
  refine Ws ?_
  rcases bft (decide (v1<(a0.length:Int))) with hb2 | hb2
  ·replace hM:=ifT hM hb2
   refine Ct hb2 ?_
   refine zaD ?_
   refine Ws ?_
   refine Sq ?_
   refine zaK ?_
   refine za1 (J:=Bool) (fun j=>[(0,.sl .no 1 (a0.map cI)),(1,.i a1),(2,.i a2),(7,.i v1),(37,.b j)]) (fun j H' g'=>St (·<g) H0 [] H' g'/\zcn (zbO a0 a1 a2 m2) v1 j=some r) ?_ ?_
   ·rintro v3 H g3 ⟨hS,hM⟩
    change wpA _ _ _ _ (Fr.of [(0,.sl .no 1 (a0.map cI)),(1,.i a1),(2,.i a2),(7,.i v1),(37,.b v3)]) _ _
    replace hS:St (·<g) H0 [] H g3:=hS
    replace hM:zcn (zbO a0 a1 a2 m2) v1 v3=some r:=hM
    rcases bft v3 with hb4 | hb4
    ·replace hM:=ifT hM hb4
     refine Ct hb4 ?_
     refine Sq ?_
     refine Rg 1 ?_
     refine Oa (.b false) ?_
     refine Ni ?_
     refine Ws ?_
     refine zaR ?_
     refine za2 ?_
     refine zam ?_
     refine zb9 ?_
     refine za2 ?_
     refine zcD ?_
     refine zaZ (x:=.b false) (f:=fun r=>.b r) (.inr rfl) ?_ (.refl _) (Option.some.inj hM) hS
     exact (zax (zae (x:=.b false) rfl))
    ·replace hM:=ifF hM hb4
     refine Cf hb4 ?_
     refine zaD ?_
     refine zat ?_
     refine Ws ?_
     refine Rg 3 ?_
     refine Om (.i v1) ?_
     refine Oi (.i (w64 (v1+1))) ?_
     refine Oa (.i (w64 (v1+1))) ?_
     refine Ni ?_
     exact zbq (w64 (v1+1)) (Nat.lt_succ_self _) (.k (.k (.k (.k .nil)))) ⟨(hS.keep [] rfl).up (by omega),hM⟩
   ·have hS0:=hS
    refine zck (n:=24) rfl (by kernel_rfl) ?_
    refine Om (.sl .no 1 (a0.map cI)) ?_
    refine Om (.i v1) ?_
    obtain ⟨x5,hx5,hM⟩:=zai hM
    refine za5 (xs:=a0) (f:=cI) (z:=v1) (u:=x5) (by decide) rfl rfl zay hx5 ?_
    refine Olp (.i x5) zah zar ?_
    refine Om (.i a1) ?_
    refine Om (.i a2) ?_
    obtain ⟨r6,hr6,hM⟩:=zai hM
    refine zaE (bs:=[.i x5,.i a1,.i a2]) (by decide) rfl rfl ((zea hr6).le (.k (.k (.k .nil)))) ?_
    refine zd4 (e:=r6) (by decide) rfl ?_
    refine Om (.b (!r6)) ?_
    rcases bft (!r6) with hb7 | hb7
    ·replace hM:=ifT hM hb7
     refine On (want:=false) hb7 ?_
     refine On (want:=false) hb7 ?_
     refine On (want:=false) hb7 ?_
     refine zaG (j:=11) (by decide) rfl ?_
     refine zaG (j:=11) (by decide) rfl ?_
     refine zaG (j:=11) (by decide) rfl ?_
     refine zaG (j:=11) (by decide) rfl ?_
     refine zaG (j:=11) (by decide) rfl ?_
     refine zaG (j:=11) (by decide) rfl ?_
     refine zaG (j:=11) (by decide) rfl ?_
     refine zaG (j:=11) (by decide) rfl ?_
     refine zaG (j:=11) (by decide) rfl ?_
     refine zaG (j:=11) (by decide) rfl ?_
     refine On (want:=false) hb7 ?_
     refine Pt (.b true) hb7 ?_
     refine Ni ?_
     exact zal true (.k (.k (.k (.k (.k .nil))))) ⟨(hS.keep [] rfl).up (by omega),hM⟩
    ·replace hM:=ifF hM hb7
     refine Oy (want:=false) hb7 ?_
     refine Om (.i v1) ?_
     refine Oy (want:=false) hb7 ?_
     refine Oi (.b (decide (v1>0))) ?_
     refine Oy (want:=false) hb7 ?_
     refine Om (.b (decide (v1>0))) ?_
     rcases bft (decide (v1>0)) with hb8 | hb8
     ·replace hM:=ifT hM hb8
      refine Oy (want:=true) hb8 ?_
      refine Om (.sl .no 1 (a0.map cI)) ?_
      refine Oy (want:=true) hb8 ?_
      refine Om (.i v1) ?_
      refine Oy (want:=true) hb8 ?_
      obtain ⟨x9,hx9,hM⟩:=zai hM
      refine za5 (xs:=a0) (f:=cI) (z:=v1) (u:=x9) (by decide) rfl rfl zay hx9 ?_
      refine Oy (want:=true) hb8 ?_
      refine Olp (.i x9) zah zar ?_
      refine Oy (want:=true) hb8 ?_
      refine Om (.sl .no 1 (a0.map cI)) ?_
      refine Oy (want:=true) hb8 ?_
      refine Om (.i v1) ?_
      refine Oy (want:=true) hb8 ?_
      refine Oi (.i (w64 (v1-1))) ?_
      refine Oy (want:=true) hb8 ?_
      obtain ⟨x10,hx10,hM⟩:=zai hM
      refine za5 (xs:=a0) (f:=cI) (z:=(w64 (v1-1))) (u:=x10) (by decide) rfl rfl zay hx10 ?_
      refine Oy (want:=true) hb8 ?_
      refine Olp (.i x10) zah zar ?_
      refine Oy (want:=true) hb8 ?_
      refine Oi (.b (decide (x9<=x10))) ?_
      refine Oy (want:=false) hb7 ?_
      refine Pt (.b (decide (x9<=x10))) hb8 ?_
      refine Pf (.b (decide (x9<=x10))) hb7 ?_
      refine Ni ?_
      exact zal (decide (x9<=x10)) (.k (.k (.k (.k (.k .nil))))) ⟨(hS.keep [] rfl).up (by omega),hM⟩
     ·replace hM:=ifF hM hb8
      refine On (want:=true) hb8 ?_
      refine On (want:=true) hb8 ?_
      refine On (want:=true) hb8 ?_
      refine On (want:=true) hb8 ?_
      refine On (want:=true) hb8 ?_
      refine On (want:=true) hb8 ?_
      refine On (want:=true) hb8 ?_
      refine On (want:=true) hb8 ?_
      refine On (want:=true) hb8 ?_
      refine On (want:=true) hb8 ?_
      refine Oy (want:=false) hb7 ?_
      refine Pf (.b false) hb8 ?_
      refine Pf (.b false) hb7 ?_
      refine Ni ?_
      exact zal false (.k (.k (.k (.k (.k .nil))))) ⟨(hS.keep [] rfl).up (by omega),hM⟩
  ·replace hM:=ifF hM hb2
   refine Cf hb2 ?_
   refine zb1 ?_
   refine zaA ?_
   refine zaz ?_
   refine zaL ?_
   exact zal () .nil ⟨(hS.keep [] rfl).up (by omega),hM⟩
theorem zi9 {n:Nat} {a0:Wheel} {r:Int} (hM:zfZ n a0=some r):zaH Try.prog 44 [.agg (Wheel.cells a0)] (.i r):=by
 refine zak mixed Try.func44 rfl (by decide) Try.ntmps44 (by simp) ?pure fun H0 g hf=>?_
 case pure=>exact .v _
 rw [zag]
 change wpA _ _ _ _ (Fr.of [(0,.agg (Wheel.cells a0))]) H0 g
 have hS:=St.start hf
 refine Sq ?_
 refine Rg 2 ?_
 refine zb4 (v:=.agg (Wheel.cells a0)) (cs:=(Wheel.cells a0)) hS (by decide) rfl rfl (by omega) fun H hS=>?_
 refine Oa (.i 0) ?_
 refine Ni ?_
 refine zaX (L':=[]) 0 1 hS rfl rfl rfl fun H hS=>?_
 refine Ws ?_
 refine Sq ?_
 refine za1 (J:=Bool) (fun j=>[(32,.b j)]) (fun j H' g'=>St (·<g) H0 [] H' g'/\zcC j=some r) ?_ ?_
 ·rintro v1 H g1 ⟨hS,hM⟩
  change wpA _ _ _ _ (Fr.of [(32,.b v1)]) _ _
  replace hS:St (·<g) H0 [] H g1:=hS
  replace hM:zcC v1=some r:=hM
  rcases bft v1 with hb2 | hb2
  ·replace hM:=ifT hM hb2
   refine Ct hb2 ?_
   refine Sq ?_
   refine Rg 1 ?_
   refine Oa (.i 10) ?_
   refine Ni ?_
   refine Ws ?_
   refine zaR ?_
   refine zam ?_
   refine zaZ (x:=.i 10) (f:=fun r=>.i r) (.inr rfl) ?_ (.refl _) (Option.some.inj hM) hS
   exact (zax (zae (x:=.i 10) rfl))
  ·replace hM:=ifF hM hb2
   refine Cf hb2 ?_
   refine zaD ?_
   refine Ws ?_
   refine Sq ?_
   refine Rg 1 ?_
   refine Oa (.i 0) ?_
   refine Ni ?_
   refine Ws ?_
   refine zaR ?_
   refine zaZ (x:=.i 0) (f:=fun r=>.i r) (.inr rfl) ?_ (.refl _) (Option.some.inj hM) hS
   exact (zax (zae (x:=.i 0) rfl))
 ·refine Rg 30 ?_
  refine Of ((Wheel.cells a0)) zdq ?_
  refine Olp (.i a0.Round) zah zar ?_
  obtain ⟨r3,hr3,hM⟩:=zai hM
  refine zaE (bs:=[.i a0.Round,.i 1,.i 200]) (by decide) rfl rfl ((zea hr3).le (.k (.k (.k .nil)))) ?_
  refine zd4 (e:=r3) (by decide) rfl ?_
  refine Om (.b (!r3)) ?_
  rcases bft (!r3) with hb4 | hb4
  ·replace hM:=ifT hM hb4
   refine On (want:=false) hb4 ?_
   refine On (want:=false) hb4 ?_
   refine On (want:=false) hb4 ?_
   refine On (want:=false) hb4 ?_
   refine Pt (.b true) hb4 ?_
   refine Om (.b true) ?_
   refine Og ?_
   refine Og ?_
   refine Og ?_
   refine Og ?_
   refine Og ?_
   refine Og ?_
   refine zcW (v:=.b true) (e:=true) (by decide) rfl rfl rfl ?_
   refine Om (.b true) ?_
   refine Og ?_
   refine Og ?_
   refine Og ?_
   refine Og ?_
   refine zcW (v:=.b true) (e:=true) (by decide) rfl rfl rfl ?_
   refine Om (.b true) ?_
   refine Og ?_
   refine Og ?_
   refine Og ?_
   refine Og ?_
   refine zcW (v:=.b true) (e:=true) (by decide) rfl rfl rfl ?_
   refine Ni ?_
   exact zal true (.k .nil) ⟨(hS.keep [] rfl).up (by omega),hM⟩
  ·replace hM:=ifF hM hb4
   refine Oy (want:=false) hb4 ?_
   refine Of ((Wheel.cells a0)) zfv ?_
   refine Oy (want:=false) hb4 ?_
   refine Olp (.sl .no 1 (a0.Notches.map cI)) zau zaO ?_
   refine Oy (want:=false) hb4 ?_
   refine zbA (n:=a0.Notches.length) (by decide) rfl (List.length_map _) zaB ?_
   refine Oy (want:=false) hb4 ?_
   refine Oi (.b (decide ((a0.Notches.length:Int)>12))) ?_
   refine Pf (.b (decide ((a0.Notches.length:Int)>12))) hb4 ?_
   refine Om (.b (decide ((a0.Notches.length:Int)>12))) ?_
   rcases bft (decide ((a0.Notches.length:Int)>12)) with hb5 | hb5
   ·replace hM:=ifT hM hb5
    refine On (want:=false) hb5 ?_
    refine On (want:=false) hb5 ?_
    refine On (want:=false) hb5 ?_
    refine On (want:=false) hb5 ?_
    refine On (want:=false) hb5 ?_
    refine On (want:=false) hb5 ?_
    refine Pt (.b true) hb5 ?_
    refine Om (.b true) ?_
    refine Og ?_
    refine Og ?_
    refine Og ?_
    refine Og ?_
    refine zcW (v:=.b true) (e:=true) (by decide) rfl rfl rfl ?_
    refine Om (.b true) ?_
    refine Og ?_
    refine Og ?_
    refine Og ?_
    refine Og ?_
    refine zcW (v:=.b true) (e:=true) (by decide) rfl rfl rfl ?_
    refine Ni ?_
    exact zal true (.k .nil) ⟨(hS.keep [] rfl).up (by omega),hM⟩
   ·replace hM:=ifF hM hb5
    refine Oy (want:=false) hb5 ?_
    refine Of ((Wheel.cells a0)) zfv ?_
    refine Oy (want:=false) hb5 ?_
    refine Olp (.sl .no 1 (a0.Notches.map cI)) zau zaO ?_
    refine Oy (want:=false) hb5 ?_
    refine Of ((Wheel.cells a0)) zdq ?_
    refine Oy (want:=false) hb5 ?_
    refine Olp (.i a0.Round) zah zar ?_
    refine Oy (want:=false) hb5 ?_
    obtain ⟨r6,hr6,hM⟩:=zai hM
    refine zaE (bs:=[.sl .no 1 (a0.Notches.map cI),.i 1,.i a0.Round]) (by decide) rfl rfl ((zic hr6).le (.k (.k (.k .nil)))) ?_
    refine Oy (want:=false) hb5 ?_
    refine zd4 (e:=r6) (by decide) rfl ?_
    refine Pf (.b (!r6)) hb5 ?_
    refine Om (.b (!r6)) ?_
    rcases bft (!r6) with hb7 | hb7
    ·replace hM:=ifT hM hb7
     refine On (want:=false) hb7 ?_
     refine On (want:=false) hb7 ?_
     refine On (want:=false) hb7 ?_
     refine On (want:=false) hb7 ?_
     refine Pt (.b true) hb7 ?_
     refine Om (.b true) ?_
     refine Og ?_
     refine Og ?_
     refine Og ?_
     refine Og ?_
     refine zcW (v:=.b true) (e:=true) (by decide) rfl rfl rfl ?_
     refine Ni ?_
     exact zal true (.k .nil) ⟨(hS.keep [] rfl).up (by omega),hM⟩
    ·replace hM:=ifF hM hb7
     refine Oy (want:=false) hb7 ?_
     refine Of ((Wheel.cells a0)) zbL ?_
     refine Oy (want:=false) hb7 ?_
     refine Olp (.sl .no 1 (a0.Coins.map cI)) zau zaO ?_
     refine Oy (want:=false) hb7 ?_
     refine zbA (n:=a0.Coins.length) (by decide) rfl (List.length_map _) zaB ?_
     refine Oy (want:=false) hb7 ?_
     refine Oi (.b (decide ((a0.Coins.length:Int)>4))) ?_
     refine Pf (.b (decide ((a0.Coins.length:Int)>4))) hb7 ?_
     refine Om (.b (decide ((a0.Coins.length:Int)>4))) ?_
     rcases bft (decide ((a0.Coins.length:Int)>4)) with hb8 | hb8
     ·replace hM:=ifT hM hb8
      refine On (want:=false) hb8 ?_
      refine On (want:=false) hb8 ?_
      refine On (want:=false) hb8 ?_
      refine On (want:=false) hb8 ?_
      refine Pt (.b true) hb8 ?_
      refine Ni ?_
      exact zal true (.k .nil) ⟨(hS.keep [] rfl).up (by omega),hM⟩
     ·replace hM:=ifF hM hb8
      refine Oy (want:=false) hb8 ?_
      refine Of ((Wheel.cells a0)) zbL ?_
      refine Oy (want:=false) hb8 ?_
      refine Olp (.sl .no 1 (a0.Coins.map cI)) zau zaO ?_
      refine Oy (want:=false) hb8 ?_
      obtain ⟨r9,hr9,hM⟩:=zai hM
      refine zaE (bs:=[.sl .no 1 (a0.Coins.map cI),.i 1,.i 100]) (by decide) rfl rfl ((zic hr9).le (.k (.k (.k .nil)))) ?_
      refine Oy (want:=false) hb8 ?_
      refine zd4 (e:=r9) (by decide) rfl ?_
      refine Pf (.b (!r9)) hb8 ?_
      refine Ni ?_
      exact zal (!r9) (.k .nil) ⟨(hS.keep [] rfl).up (by omega),hM⟩
theorem zga {n:Nat} {a0:Wheel} {a1:List Int} {r:Bool} (hM:zdU n a0 a1=some r):zaH Try.prog 54 [.agg (Wheel.cells a0),.sl .no 1 (a1.map cI)] (.b r):=by
 refine zak mixed Try.func54 rfl (by decide) Try.ntmps54 (by simp) ?pure fun H0 g hf=>?_
 case pure=>exact .v _
 rw [zag]
 change wpA _ _ _ _ (Fr.of [(0,.agg (Wheel.cells a0)),(1,.sl .no 1 (a1.map cI))]) H0 g
 have hS:=St.start hf
 refine Sq ?_
 refine Rg 2 ?_
 refine zb4 (v:=.agg (Wheel.cells a0)) (cs:=(Wheel.cells a0)) hS (by decide) rfl rfl (by omega) fun H hS=>?_
 refine Oa (.b false) ?_
 refine Ni ?_
 refine zaX (L':=[]) 0 2 hS rfl rfl rfl fun H hS=>?_
 refine Ws ?_
 refine Sq ?_
 refine Sq ?_
 refine Rg 6 ?_
 refine Om (.sl .no 1 (a1.map cI)) ?_
 refine zbA (n:=a1.length) (by decide) rfl (List.length_map _) zaB ?_
 refine Of ((Wheel.cells a0)) zbL ?_
 refine Olp (.sl .no 1 (a0.Coins.map cI)) zau zaO ?_
 refine zbA (n:=a0.Coins.length) (by decide) rfl (List.length_map _) zaB ?_
 refine Oi (.b ((a1.length:Int) != (a0.Coins.length:Int))) ?_
 refine Ni ?_
 refine Ws ?_
 rcases bft ((a1.length:Int) != (a0.Coins.length:Int)) with hb1 | hb1
 ·replace hM:=ifT hM hb1
  refine Ct hb1 ?_
  refine Sq ?_
  refine Rg 1 ?_
  refine Oa (.b false) ?_
  refine Ni ?_
  refine Ws ?_
  refine zaR ?_
  refine zam ?_
  refine zaZ (x:=.b false) (f:=fun r=>.b r) (.inr rfl) ?_ (.refl _) (Option.some.inj hM) hS
  exact (zax (zae (x:=.b false) rfl))
 ·replace hM:=ifF hM hb1
  refine Cf hb1 ?_
  refine zaD ?_
  refine Ws ?_
  refine Sq ?_
  refine Rg 1 ?_
  refine Oa (.i 0) ?_
  refine Ni ?_
  refine Ws ?_
  refine za1 (J:=Int) (fun j=>[(5,.i j)]) (fun j H' g'=>St (·<g) H0 [] H' g'/\zee j=some r) ?_ ?_
  ·rintro v2 H g1 ⟨hS,hM⟩
   change wpA _ _ _ _ (Fr.of [(5,.i v2)]) _ _
   replace hS:St (·<g) H0 [] H g1:=hS
   replace hM:zee v2=some r:=hM
   refine Sq ?_
   refine Rg 3 ?_
   refine Om (.i v2) ?_
   refine Oi (.b (decide (v2<=12))) ?_
   refine Oa (.b (decide (v2<=12))) ?_
   refine Ni ?_
   refine Ws ?_
   refine zaR ?_
   refine zaZ (x:=.b (decide (v2<=12))) (f:=fun r=>.b r) (.inr rfl) ?_ (.refl _) (Option.some.inj hM) hS
   exact (zax (zae (x:=.b (decide (v2<=12))) rfl))
  ·refine Sq ?_
   refine Rg 1 ?_
   refine Oa (.i 0) ?_
   refine Ni ?_
   refine Ws ?_
   refine zaK ?_
   refine zct (V:=Int×Int) (fun v=>[(1,.sl .no 1 (a1.map cI)),(5,.i v.1),(6,.i v.2)]) (fun v m2 H' g'=>St (·<g) H0 [] H' g'/\zb2 a1 m2 v.1 v.2=some r) (n:=n) (0,0) (.k (.k (.k .nil))) ⟨(hS.keep [] rfl).up (by omega),hM⟩ ?_
   rintro ⟨v3,v4⟩ m2 H g2 ⟨hS,hM⟩
   obtain _ | m2:=m2
   ·exact nomatch (show none=some _ from hM)
   change wpA _ _ _ _ (Fr.of [(1,.sl .no 1 (a1.map cI)),(5,.i v3),(6,.i v4)]) _ _
   replace hS:St (·<g) H0 [] H g2:=hS
   replace hM:zdy a1 (zb2 a1 m2) v3 v4=some r:=hM
   refine Sq ?_
   refine Sq ?_
   refine Rg 4 ?_
   refine Om (.i v4) ?_
   refine Om (.sl .no 1 (a1.map cI)) ?_
   refine zbA (n:=a1.length) (by decide) rfl (List.length_map _) zaB ?_
   refine Oi (.b (decide (v4<(a1.length:Int)))) ?_
   refine Ni ?_
   refine Ws ?_
   rcases bft (decide (v4<(a1.length:Int))) with hb5 | hb5
   ·replace hM:=ifT hM hb5
    refine Ct hb5 ?_
    refine zaD ?_
    refine Ws ?_
    refine Sq ?_
    refine zaK ?_
    refine Sq ?_
    refine Sq ?_
    refine Rg 6 ?_
    refine Om (.sl .no 1 (a1.map cI)) ?_
    refine Om (.i v4) ?_
    obtain ⟨x6,hx6,hM⟩:=zai hM
    refine za5 (xs:=a1) (f:=cI) (z:=v4) (u:=x6) (by decide) rfl rfl zay hx6 ?_
    refine Olp (.i x6) zah zar ?_
    obtain ⟨r7,hr7,hM⟩:=zai hM
    refine zaE (bs:=[.i x6,.i 0,.i 12]) (by decide) rfl rfl ((zea hr7).le (.k (.k (.k .nil)))) ?_
    refine zd4 (e:=r7) (by decide) rfl ?_
    refine Ni ?_
    refine Ws ?_
    rcases bft (!r7) with hb8 | hb8
    ·replace hM:=ifT hM hb8
     refine Ct hb8 ?_
     refine Sq ?_
     refine Rg 1 ?_
     refine Oa (.b false) ?_
     refine Ni ?_
     refine Ws ?_
     refine zaR ?_
     refine zam ?_
     refine za2 ?_
     refine zam ?_
     refine zb9 ?_
     refine za2 ?_
     refine zcD ?_
     refine zaZ (x:=.b false) (f:=fun r=>.b r) (.inr rfl) ?_ (.refl _) (Option.some.inj hM) hS
     exact (zax (zae (x:=.b false) rfl))
    ·replace hM:=ifF hM hb8
     refine Cf hb8 ?_
     refine zaD ?_
     refine Ws ?_
     refine Rg 7 ?_
     refine Om (.i v3) ?_
     refine Om (.sl .no 1 (a1.map cI)) ?_
     refine Om (.i v4) ?_
     obtain ⟨x9,hx9,hM⟩:=zai hM
     refine za5 (xs:=a1) (f:=cI) (z:=v4) (u:=x9) (by decide) rfl rfl zay hx9 ?_
     refine Olp (.i x9) zah zar ?_
     refine Oi (.i (w64 (v3+x9))) ?_
     refine Oa (.i (w64 (v3+x9))) ?_
     refine Ni ?_
     refine zat ?_
     refine Ws ?_
     refine Rg 3 ?_
     refine Om (.i v4) ?_
     refine Oi (.i (w64 (v4+1))) ?_
     refine Oa (.i (w64 (v4+1))) ?_
     refine Ni ?_
     exact zbq (w64 (v3+x9),w64 (v4+1)) (Nat.lt_succ_self _) (.k (.k (.k .nil))) ⟨(hS.keep [] rfl).up (by omega),hM⟩
   ·replace hM:=ifF hM hb5
    refine Cf hb5 ?_
    refine zb1 ?_
    refine zaA ?_
    refine zaz ?_
    refine zaL ?_
    exact zal v3 (.k .nil) ⟨(hS.keep [] rfl).up (by omega),hM⟩
theorem zgE {a0:Int} {a1:Int} {a2:Int} {r:Bool} (hM:zeu a0 a1 a2=some r):zaH Try.prog 65 [.i a0,.i a1,.i a2] (.b r):=by
 refine zak mixed Try.func65 rfl (by decide) Try.ntmps65 (by simp) ?pure fun H0 g hf=>?_
 case pure=>exact .v _
 rw [zag]
 change wpA _ _ _ _ (Fr.of [(0,.i a0),(1,.i a1),(2,.i a2)]) H0 g
 have hS:=St.start hf
 refine Sq ?_
 refine Rg 1 ?_
 refine Oa (.b false) ?_
 refine Ni ?_
 refine Ws ?_
 refine Sq ?_
 refine Rg 5 ?_
 refine Om (.i a0) ?_
 refine Om (.i a1) ?_
 refine Om (.i a2) ?_
 obtain ⟨r1,hr1,hM⟩:=zai hM
 refine zaE (bs:=[.i a0,.i a1,.i a2]) (by decide) rfl rfl ((zea hr1).le (.k (.k (.k .nil)))) ?_
 refine Oa (.b r1) ?_
 refine Ni ?_
 refine zeF [(6,.b r1)] (.k .nil) ?_
 refine zaR ?_
 refine zaZ (x:=.b r1) (f:=fun r=>.b r) (.inr rfl) ?_ (.refl _) (Option.some.inj hM) hS
 exact (zax (zae (x:=.b r1) rfl))
theorem zja {n:Nat} {a0:Box} {r:Int} (hM:zf0 n a0=some r):zaH Try.prog 34 [.agg (Box.cells a0)] (.i r):=by
 refine zak mixed Try.func34 rfl (by decide) Try.ntmps34 (by simp) ?pure fun H0 g hf=>?_
 case pure=>exact .v _
 rw [zag]
 change wpA _ _ _ _ (Fr.of [(0,.agg (Box.cells a0))]) H0 g
 have hS:=St.start hf
 refine Sq ?_
 refine Rg 2 ?_
 refine zb4 (v:=.agg (Box.cells a0)) (cs:=(Box.cells a0)) hS (by decide) rfl rfl (by omega) fun H hS=>?_
 refine Oa (.i 0) ?_
 refine Ni ?_
 refine zaX (L':=[]) 0 1 hS rfl rfl rfl fun H hS=>?_
 refine Ws ?_
 refine Sq ?_
 refine za1 (J:=Bool) (fun j=>[(1,.ep (Box.cells a0)),(44,.b j)]) (fun j H' g'=>St (·<g) H0 [] H' g'/\zch n a0 j=some r) ?_ ?_
 ·rintro v1 H g1 ⟨hS,hM⟩
  change wpA _ _ _ _ (Fr.of [(1,.ep (Box.cells a0)),(44,.b v1)]) _ _
  replace hS:St (·<g) H0 [] H g1:=hS
  replace hM:zch n a0 v1=some r:=hM
  rcases bft v1 with hb2 | hb2
  ·replace hM:=ifT hM hb2
   refine Ct hb2 ?_
   refine Sq ?_
   refine Rg 1 ?_
   refine Oa (.i 50) ?_
   refine Ni ?_
   refine Ws ?_
   refine zaR ?_
   refine zam ?_
   refine zaZ (x:=.i 50) (f:=fun r=>.i r) (.inr rfl) ?_ (.refl _) (Option.some.inj hM) hS
   exact (zax (zae (x:=.i 50) rfl))
  ·replace hM:=ifF hM hb2
   refine Cf hb2 ?_
   refine zaD ?_
   refine Ws ?_
   refine za1 (J:=Unit) (fun j=>[(1,.ep (Box.cells a0))]) (fun j H' g'=>St (·<g) H0 [] H' g'/\zd6 n a0=some r) ?_ ?_
   ·rintro _ H g2 ⟨hS,hM⟩
    change wpA _ _ _ _ (Fr.of [(1,.ep (Box.cells a0))]) _ _
    replace hS:St (·<g) H0 [] H g2:=hS
    replace hM:zd6 n a0=some r:=hM
    refine Sq ?_
    refine Sq ?_
    have hS0:=hS
    refine zck (n:=9) rfl (by kernel_rfl) ?_
    refine Of ((Box.cells a0)) zcH ?_
    refine Olg (.agg (Wheel.cells a0.Wheel)) zbk ?_
    refine Of ((Box.cells a0)) zcU ?_
    refine Olp (.sl .no 1 (a0.Found.map cI)) zau zaO ?_
    refine Of ((Box.cells a0)) zd9 ?_
    refine Olp (.sl .no 1 (a0.Slugs.map cI)) zau zaO ?_
    obtain ⟨r3,hr3,hM⟩:=zai hM
    refine zaE (bs:=[.sl .no 1 (a0.Found.map cI),.sl .no 1 (a0.Slugs.map cI)]) (by decide) rfl rfl ((zjR hr3).le (.k (.k .nil))) ?_
    obtain ⟨r4,hr4,hM⟩:=zai hM
    refine zaE (bs:=[.agg (Wheel.cells a0.Wheel),.sl .no 1 (r3.map cI)]) (by decide) rfl rfl ((zga hr4).le (.k (.k .nil))) ?_
    refine zd4 (e:=r4) (by decide) rfl ?_
    refine Ni ?_
    refine Ws ?_
    rcases bft (!r4) with hb5 | hb5
    ·replace hM:=ifT hM hb5
     refine Ct hb5 ?_
     refine Sq ?_
     refine Rg 1 ?_
     refine Oa (.i 50) ?_
     refine Ni ?_
     refine Ws ?_
     refine zaR ?_
     refine zam ?_
     refine zaZ (x:=.i 50) (f:=fun r=>.i r) (.inr rfl) ?_ (.refl _) (Option.some.inj hM) hS
     exact (zax (zae (x:=.i 50) rfl))
    ·replace hM:=ifF hM hb5
     refine Cf hb5 ?_
     refine zaD ?_
     refine Ws ?_
     refine Sq ?_
     refine Rg 1 ?_
     refine Oa (.i 0) ?_
     refine Ni ?_
     refine Ws ?_
     refine zaR ?_
     refine zaZ (x:=.i 0) (f:=fun r=>.i r) (.inr rfl) ?_ (.refl _) (Option.some.inj hM) hS
     exact (zax (zae (x:=.i 0) rfl))
   ·refine Sq ?_
    refine Rg 1 ?_
    refine Oa (.i 0) ?_
    refine Ni ?_
    refine Ws ?_
    refine zaK ?_
    refine zct (V:=Int) (fun v=>[(1,.ep (Box.cells a0)),(3,.i v)]) (fun v m3 H' g'=>St (·<g) H0 [] H' g'/\zcg n a0 m3 v=some r) (n:=n) 0 (.k (.k .nil)) ⟨(hS.keep [] rfl).up (by omega),hM⟩ ?_
    rintro v6 m3 H g3 ⟨hS,hM⟩
    obtain _ | m3:=m3
    ·exact nomatch (show none=some _ from hM)
    change wpA _ _ _ _ (Fr.of [(1,.ep (Box.cells a0)),(3,.i v6)]) _ _
    replace hS:St (·<g) H0 [] H g3:=hS
    replace hM:zef n a0 (zcg n a0 m3) v6=some r:=hM
    refine Sq ?_
    refine Sq ?_
    refine Rg 5 ?_
    refine Om (.i v6) ?_
    refine Of ((Box.cells a0)) zcU ?_
    refine Olp (.sl .no 1 (a0.Found.map cI)) zau zaO ?_
    refine zbA (n:=a0.Found.length) (by decide) rfl (List.length_map _) zaB ?_
    refine Oi (.b (decide (v6<(a0.Found.length:Int)))) ?_
    refine Ni ?_
    refine Ws ?_
    rcases bft (decide (v6<(a0.Found.length:Int))) with hb7 | hb7
    ·replace hM:=ifT hM hb7
     refine Ct hb7 ?_
     refine zaD ?_
     refine Ws ?_
     refine Sq ?_
     refine zaK ?_
     refine Sq ?_
     have hS0:=hS
     refine zck (n:=12) rfl (by kernel_rfl) ?_
     refine Of ((Box.cells a0)) zfw ?_
     refine Olp (.sl .no 1 (a0.Marked.map cI)) zau zaO ?_
     refine Om (.i v6) ?_
     obtain ⟨x8,hx8,hM⟩:=zai hM
     refine za5 (xs:=a0.Marked) (f:=cI) (z:=v6) (u:=x8) (by decide) rfl rfl zay hx8 ?_
     refine Olp (.i x8) zah zar ?_
     refine Of ((Box.cells a0)) zcU ?_
     refine Olp (.sl .no 1 (a0.Found.map cI)) zau zaO ?_
     refine Om (.i v6) ?_
     obtain ⟨x9,hx9,hM⟩:=zai hM
     refine za5 (xs:=a0.Found) (f:=cI) (z:=v6) (u:=x9) (by decide) rfl rfl zay hx9 ?_
     refine Olp (.i x9) zah zar ?_
     obtain ⟨r10,hr10,hM⟩:=zai hM
     refine zaE (bs:=[.i x8,.i 0,.i x9]) (by decide) rfl rfl ((zgE hr10).le (.k (.k (.k .nil)))) ?_
     refine zd4 (e:=r10) (by decide) rfl ?_
     refine Ni ?_
     refine Ws ?_
     rcases bft (!r10) with hb11 | hb11
     ·replace hM:=ifT hM hb11
      refine Ct hb11 ?_
      refine Sq ?_
      refine Rg 1 ?_
      refine Oa (.i 50) ?_
      refine Ni ?_
      refine Ws ?_
      refine zaR ?_
      refine za2 ?_
      refine zam ?_
      refine zb9 ?_
      refine za2 ?_
      refine zcD ?_
      refine zaZ (x:=.i 50) (f:=fun r=>.i r) (.inr rfl) ?_ (.refl _) (Option.some.inj hM) hS
      exact (zax (zae (x:=.i 50) rfl))
     ·replace hM:=ifF hM hb11
      refine Cf hb11 ?_
      refine zaD ?_
      refine zat ?_
      refine Ws ?_
      refine Rg 3 ?_
      refine Om (.i v6) ?_
      refine Oi (.i (w64 (v6+1))) ?_
      refine Oa (.i (w64 (v6+1))) ?_
      refine Ni ?_
      exact zbq (w64 (v6+1)) (Nat.lt_succ_self _) (.k (.k .nil)) ⟨(hS.keep [] rfl).up (by omega),hM⟩
    ·replace hM:=ifF hM hb7
     refine Cf hb7 ?_
     refine zb1 ?_
     refine zaA ?_
     refine zaz ?_
     refine zaL ?_
     exact zal () (.k .nil) ⟨(hS.keep [] rfl).up (by omega),hM⟩
 ·refine Rg 41 ?_
  refine Of ((Box.cells a0)) zcH ?_
  refine Olg (.agg (Wheel.cells a0.Wheel)) zbk ?_
  obtain ⟨r12,hr12,hM⟩:=zai hM
  refine zaE (bs:=[.agg (Wheel.cells a0.Wheel)]) (by decide) rfl rfl ((zi9 hr12).le (.k .nil)) ?_
  refine Oi (.b (r12 != 0)) ?_
  refine Om (.b (r12 != 0)) ?_
  rcases bft (r12 != 0) with hb13 | hb13
  ·replace hM:=ifT hM hb13
   refine On (want:=false) hb13 ?_
   refine On (want:=false) hb13 ?_
   refine On (want:=false) hb13 ?_
   refine On (want:=false) hb13 ?_
   refine On (want:=false) hb13 ?_
   refine On (want:=false) hb13 ?_
   refine Pt (.b true) hb13 ?_
   refine Om (.b true) ?_
   refine Og ?_
   refine Og ?_
   refine Og ?_
   refine Og ?_
   refine Og ?_
   refine Og ?_
   refine zcW (v:=.b true) (e:=true) (by decide) rfl rfl rfl ?_
   refine Om (.b true) ?_
   refine Og ?_
   refine Og ?_
   refine Og ?_
   refine Og ?_
   refine Og ?_
   refine Og ?_
   refine Og ?_
   refine zcW (v:=.b true) (e:=true) (by decide) rfl rfl rfl ?_
   refine Om (.b true) ?_
   refine Og ?_
   refine Og ?_
   refine Og ?_
   refine Og ?_
   refine zcW (v:=.b true) (e:=true) (by decide) rfl rfl rfl ?_
   refine Om (.b true) ?_
   refine Og ?_
   refine Og ?_
   refine Og ?_
   refine Og ?_
   refine zcW (v:=.b true) (e:=true) (by decide) rfl rfl rfl ?_
   refine Ni ?_
   exact zal true (.k (.k .nil)) ⟨(hS.keep [] rfl).up (by omega),hM⟩
  ·replace hM:=ifF hM hb13
   refine Oy (want:=false) hb13 ?_
   refine Of ((Box.cells a0)) zcH ?_
   refine Oy (want:=false) hb13 ?_
   refine Olg (.agg (Wheel.cells a0.Wheel)) zbk ?_
   refine Oy (want:=false) hb13 ?_
   refine Of ((Box.cells a0)) zcU ?_
   refine Oy (want:=false) hb13 ?_
   refine Olp (.sl .no 1 (a0.Found.map cI)) zau zaO ?_
   refine Oy (want:=false) hb13 ?_
   obtain ⟨r14,hr14,hM⟩:=zai hM
   refine zaE (bs:=[.agg (Wheel.cells a0.Wheel),.sl .no 1 (a0.Found.map cI)]) (by decide) rfl rfl ((zga hr14).le (.k (.k .nil))) ?_
   refine Oy (want:=false) hb13 ?_
   refine zd4 (e:=r14) (by decide) rfl ?_
   refine Pf (.b (!r14)) hb13 ?_
   refine Om (.b (!r14)) ?_
   rcases bft (!r14) with hb15 | hb15
   ·replace hM:=ifT hM hb15
    refine On (want:=false) hb15 ?_
    refine On (want:=false) hb15 ?_
    refine On (want:=false) hb15 ?_
    refine On (want:=false) hb15 ?_
    refine On (want:=false) hb15 ?_
    refine On (want:=false) hb15 ?_
    refine Pt (.b true) hb15 ?_
    refine Om (.b true) ?_
    refine Og ?_
    refine Og ?_
    refine Og ?_
    refine Og ?_
    refine Og ?_
    refine Og ?_
    refine Og ?_
    refine zcW (v:=.b true) (e:=true) (by decide) rfl rfl rfl ?_
    refine Om (.b true) ?_
    refine Og ?_
    refine Og ?_
    refine Og ?_
    refine Og ?_
    refine zcW (v:=.b true) (e:=true) (by decide) rfl rfl rfl ?_
    refine Om (.b true) ?_
    refine Og ?_
    refine Og ?_
    refine Og ?_
    refine Og ?_
    refine zcW (v:=.b true) (e:=true) (by decide) rfl rfl rfl ?_
    refine Ni ?_
    exact zal true (.k (.k .nil)) ⟨(hS.keep [] rfl).up (by omega),hM⟩
   ·replace hM:=ifF hM hb15
    refine Oy (want:=false) hb15 ?_
    refine Of ((Box.cells a0)) zcH ?_
    refine Oy (want:=false) hb15 ?_
    refine Olg (.agg (Wheel.cells a0.Wheel)) zbk ?_
    refine Oy (want:=false) hb15 ?_
    refine Of ((Box.cells a0)) zd9 ?_
    refine Oy (want:=false) hb15 ?_
    refine Olp (.sl .no 1 (a0.Slugs.map cI)) zau zaO ?_
    refine Oy (want:=false) hb15 ?_
    obtain ⟨r16,hr16,hM⟩:=zai hM
    refine zaE (bs:=[.agg (Wheel.cells a0.Wheel),.sl .no 1 (a0.Slugs.map cI)]) (by decide) rfl rfl ((zga hr16).le (.k (.k .nil))) ?_
    refine Oy (want:=false) hb15 ?_
    refine zd4 (e:=r16) (by decide) rfl ?_
    refine Pf (.b (!r16)) hb15 ?_
    refine Om (.b (!r16)) ?_
    rcases bft (!r16) with hb17 | hb17
    ·replace hM:=ifT hM hb17
     refine On (want:=false) hb17 ?_
     refine On (want:=false) hb17 ?_
     refine On (want:=false) hb17 ?_
     refine On (want:=false) hb17 ?_
     refine On (want:=false) hb17 ?_
     refine On (want:=false) hb17 ?_
     refine On (want:=false) hb17 ?_
     refine Pt (.b true) hb17 ?_
     refine Om (.b true) ?_
     refine Og ?_
     refine Og ?_
     refine Og ?_
     refine Og ?_
     refine zcW (v:=.b true) (e:=true) (by decide) rfl rfl rfl ?_
     refine Om (.b true) ?_
     refine Og ?_
     refine Og ?_
     refine Og ?_
     refine Og ?_
     refine zcW (v:=.b true) (e:=true) (by decide) rfl rfl rfl ?_
     refine Ni ?_
     exact zal true (.k (.k .nil)) ⟨(hS.keep [] rfl).up (by omega),hM⟩
    ·replace hM:=ifF hM hb17
     refine Oy (want:=false) hb17 ?_
     refine Of ((Box.cells a0)) zfw ?_
     refine Oy (want:=false) hb17 ?_
     refine Olp (.sl .no 1 (a0.Marked.map cI)) zau zaO ?_
     refine Oy (want:=false) hb17 ?_
     refine zbA (n:=a0.Marked.length) (by decide) rfl (List.length_map _) zaB ?_
     refine Oy (want:=false) hb17 ?_
     refine Of ((Box.cells a0)) zcU ?_
     refine Oy (want:=false) hb17 ?_
     refine Olp (.sl .no 1 (a0.Found.map cI)) zau zaO ?_
     refine Oy (want:=false) hb17 ?_
     refine zbA (n:=a0.Found.length) (by decide) rfl (List.length_map _) zaB ?_
     refine Oy (want:=false) hb17 ?_
     refine Oi (.b ((a0.Marked.length:Int) != (a0.Found.length:Int))) ?_
     refine Pf (.b ((a0.Marked.length:Int) != (a0.Found.length:Int))) hb17 ?_
     refine Om (.b ((a0.Marked.length:Int) != (a0.Found.length:Int))) ?_
     rcases bft ((a0.Marked.length:Int) != (a0.Found.length:Int)) with hb18 | hb18
     ·replace hM:=ifT hM hb18
      refine On (want:=false) hb18 ?_
      refine On (want:=false) hb18 ?_
      refine On (want:=false) hb18 ?_
      refine On (want:=false) hb18 ?_
      refine Pt (.b true) hb18 ?_
      refine Om (.b true) ?_
      refine Og ?_
      refine Og ?_
      refine Og ?_
      refine Og ?_
      refine zcW (v:=.b true) (e:=true) (by decide) rfl rfl rfl ?_
      refine Ni ?_
      exact zal true (.k (.k .nil)) ⟨(hS.keep [] rfl).up (by omega),hM⟩
     ·replace hM:=ifF hM hb18
      refine Oy (want:=false) hb18 ?_
      refine Of ((Box.cells a0)) zhF ?_
      refine Oy (want:=false) hb18 ?_
      refine Olp (.i a0.Plays) zah zar ?_
      refine Oy (want:=false) hb18 ?_
      obtain ⟨r19,hr19,hM⟩:=zai hM
      refine zaE (bs:=[.i a0.Plays,.i 0,.i 9999]) (by decide) rfl rfl ((zgE hr19).le (.k (.k (.k .nil)))) ?_
      refine Oy (want:=false) hb18 ?_
      refine zd4 (e:=r19) (by decide) rfl ?_
      refine Pf (.b (!r19)) hb18 ?_
      refine Om (.b (!r19)) ?_
      rcases bft (!r19) with hb20 | hb20
      ·replace hM:=ifT hM hb20
       refine On (want:=false) hb20 ?_
       refine On (want:=false) hb20 ?_
       refine On (want:=false) hb20 ?_
       refine On (want:=false) hb20 ?_
       refine Pt (.b true) hb20 ?_
       refine Ni ?_
       exact zal true (.k (.k .nil)) ⟨(hS.keep [] rfl).up (by omega),hM⟩
      ·replace hM:=ifF hM hb20
       refine Oy (want:=false) hb20 ?_
       refine Of ((Box.cells a0)) zkZ ?_
       refine Oy (want:=false) hb20 ?_
       refine Olp (.i a0.Skips) zah zar ?_
       refine Oy (want:=false) hb20 ?_
       obtain ⟨r21,hr21,hM⟩:=zai hM
       refine zaE (bs:=[.i a0.Skips,.i 0,.i 9]) (by decide) rfl rfl ((zgE hr21).le (.k (.k (.k .nil)))) ?_
       refine Oy (want:=false) hb20 ?_
       refine zd4 (e:=r21) (by decide) rfl ?_
       refine Pf (.b (!r21)) hb20 ?_
       refine Ni ?_
       exact zal (!r21) (.k (.k .nil)) ⟨(hS.keep [] rfl).up (by omega),hM⟩
theorem zmG {n:Nat} {a0:List Int} {r:Int} (hM:zg8 n a0=some r):zaH Try.prog 55 [.sl .no 1 (a0.map cI)] (.i r):=by
 refine zak mixed Try.func55 rfl (by decide) Try.ntmps55 (by simp) ?pure fun H0 g hf=>?_
 case pure=>exact .v _
 rw [zag]
 change wpA _ _ _ _ (Fr.of [(0,.sl .no 1 (a0.map cI))]) H0 g
 have hS:=St.start hf
 refine Sq ?_
 refine Rg 1 ?_
 refine Oa (.i 0) ?_
 refine Ni ?_
 refine Ws ?_
 refine Sq ?_
 refine Rg 1 ?_
 refine Oa (.i 0) ?_
 refine Ni ?_
 refine Ws ?_
 refine za1 (J:=Int) (fun j=>[(3,.i j)]) (fun j H' g'=>St (·<g) H0 [] H' g'/\ze8 j=some r) ?_ ?_
 ·rintro v1 H g1 ⟨hS,hM⟩
  change wpA _ _ _ _ (Fr.of [(3,.i v1)]) _ _
  replace hS:St (·<g) H0 [] H g1:=hS
  replace hM:ze8 v1=some r:=hM
  refine Sq ?_
  refine Rg 2 ?_
  refine Om (.i v1) ?_
  refine Oa (.i v1) ?_
  refine Ni ?_
  refine Ws ?_
  refine zaR ?_
  refine zaZ (x:=.i v1) (f:=fun r=>.i r) (.inr rfl) ?_ (.refl _) (Option.some.inj hM) hS
  exact (zax (zae (x:=.i v1) rfl))
 ·refine Sq ?_
  refine Rg 1 ?_
  refine Oa (.i 0) ?_
  refine Ni ?_
  refine Ws ?_
  refine zaK ?_
  refine zct (V:=Int×Int) (fun v=>[(0,.sl .no 1 (a0.map cI)),(3,.i v.1),(4,.i v.2)]) (fun v m2 H' g'=>St (·<g) H0 [] H' g'/\zcX a0 m2 v.1 v.2=some r) (n:=n) (0,0) (.k (.k (.k .nil))) ⟨(hS.keep [] rfl).up (by omega),hM⟩ ?_
  rintro ⟨v2,v3⟩ m2 H g2 ⟨hS,hM⟩
  obtain _ | m2:=m2
  ·exact nomatch (show none=some _ from hM)
  change wpA _ _ _ _ (Fr.of [(0,.sl .no 1 (a0.map cI)),(3,.i v2),(4,.i v3)]) _ _
  replace hS:St (·<g) H0 [] H g2:=hS
  replace hM:zeg a0 (zcX a0 m2) v2 v3=some r:=hM
  refine Sq ?_
  refine Sq ?_
  refine Rg 4 ?_
  refine Om (.i v3) ?_
  refine Om (.sl .no 1 (a0.map cI)) ?_
  refine zbA (n:=a0.length) (by decide) rfl (List.length_map _) zaB ?_
  refine Oi (.b (decide (v3<(a0.length:Int)))) ?_
  refine Ni ?_
  refine Ws ?_
  rcases bft (decide (v3<(a0.length:Int))) with hb4 | hb4
  ·replace hM:=ifT hM hb4
   refine Ct hb4 ?_
   refine zaD ?_
   refine Ws ?_
   refine Sq ?_
   refine zaK ?_
   refine Rg 7 ?_
   refine Om (.i v2) ?_
   refine Om (.sl .no 1 (a0.map cI)) ?_
   refine Om (.i v3) ?_
   obtain ⟨x5,hx5,hM⟩:=zai hM
   refine za5 (xs:=a0) (f:=cI) (z:=v3) (u:=x5) (by decide) rfl rfl zay hx5 ?_
   refine Olp (.i x5) zah zar ?_
   refine Oi (.i (w64 (v2+x5))) ?_
   refine Oa (.i (w64 (v2+x5))) ?_
   refine Ni ?_
   refine zat ?_
   refine Ws ?_
   refine Rg 3 ?_
   refine Om (.i v3) ?_
   refine Oi (.i (w64 (v3+1))) ?_
   refine Oa (.i (w64 (v3+1))) ?_
   refine Ni ?_
   exact zbq (w64 (v2+x5),w64 (v3+1)) (Nat.lt_succ_self _) (.k (.k (.k .nil))) ⟨(hS.keep [] rfl).up (by omega),hM⟩
  ·replace hM:=ifF hM hb4
   refine Cf hb4 ?_
   refine zb1 ?_
   refine zaA ?_
   refine zaz ?_
   refine zaL ?_
   exact zal v2 (.k .nil) ⟨(hS.keep [] rfl).up (by omega),hM⟩
theorem zoG {n:Nat} {a0:Box} {r:Bool} (hM:zhC n a0=some r):zaH Try.prog 32 [.agg (Box.cells a0)] (.b r):=by
 refine zak mixed Try.func32 rfl (by decide) Try.ntmps32 (by simp) ?pure fun H0 g hf=>?_
 case pure=>exact .v _
 rw [zag]
 change wpA _ _ _ _ (Fr.of [(0,.agg (Box.cells a0))]) H0 g
 have hS:=St.start hf
 refine Sq ?_
 refine Rg 2 ?_
 refine zb4 (v:=.agg (Box.cells a0)) (cs:=(Box.cells a0)) hS (by decide) rfl rfl (by omega) fun H hS=>?_
 refine Oa (.b false) ?_
 refine Ni ?_
 refine zaX (L':=[]) 0 1 hS rfl rfl rfl fun H hS=>?_
 refine Ws ?_
 refine Sq ?_
 refine Sq ?_
 refine Rg 19 ?_
 refine Of ((Box.cells a0)) zcH ?_
 refine Of ((Box.cells a0)) zfv ?_
 refine Olp (.sl .no 1 (a0.Wheel.Notches.map cI)) zau zaO ?_
 refine zbA (n:=a0.Wheel.Notches.length) (by decide) rfl (List.length_map _) zaB ?_
 refine Of ((Box.cells a0)) zcH ?_
 refine Of ((Box.cells a0)) zbL ?_
 refine Olp (.sl .no 1 (a0.Wheel.Coins.map cI)) zau zaO ?_
 refine zbA (n:=a0.Wheel.Coins.length) (by decide) rfl (List.length_map _) zaB ?_
 refine Of ((Box.cells a0)) zcU ?_
 refine Olp (.sl .no 1 (a0.Found.map cI)) zau zaO ?_
 refine zbA (n:=a0.Found.length) (by decide) rfl (List.length_map _) zaB ?_
 refine Of ((Box.cells a0)) zfw ?_
 refine Olp (.sl .no 1 (a0.Marked.map cI)) zau zaO ?_
 refine zbA (n:=a0.Marked.length) (by decide) rfl (List.length_map _) zaB ?_
 refine Of ((Box.cells a0)) zd9 ?_
 refine Olp (.sl .no 1 (a0.Slugs.map cI)) zau zaO ?_
 refine zbA (n:=a0.Slugs.length) (by decide) rfl (List.length_map _) zaB ?_
 refine ztr (v:=.i (max (max (max (max (a0.Wheel.Notches.length:Int) (a0.Wheel.Coins.length:Int)) (a0.Found.length:Int)) (a0.Marked.length:Int)) (a0.Slugs.length:Int))) (by decide) rfl ?_
 refine Oi (.b (decide ((max (max (max (max (a0.Wheel.Notches.length:Int) (a0.Wheel.Coins.length:Int)) (a0.Found.length:Int)) (a0.Marked.length:Int)) (a0.Slugs.length:Int))>40))) ?_
 refine Ni ?_
 refine Ws ?_
 rcases bft (decide ((max (max (max (max (a0.Wheel.Notches.length:Int) (a0.Wheel.Coins.length:Int)) (a0.Found.length:Int)) (a0.Marked.length:Int)) (a0.Slugs.length:Int))>40)) with hb1 | hb1
 ·replace hM:=ifT hM hb1
  refine Ct hb1 ?_
  refine Sq ?_
  refine Rg 1 ?_
  refine Oa (.b true) ?_
  refine Ni ?_
  refine Ws ?_
  refine zaR ?_
  refine zam ?_
  refine zaZ (x:=.b true) (f:=fun r=>.b r) (.inr rfl) ?_ (.refl _) (Option.some.inj hM) hS
  exact (zax (zae (x:=.b true) rfl))
 ·replace hM:=ifF hM hb1
  refine Cf hb1 ?_
  refine zaD ?_
  refine Ws ?_
  refine za1 (J:=Bool) (fun j=>[(2,.b j)]) (fun j H' g'=>St (·<g) H0 [] H' g'/\zev j=some r) ?_ ?_
  ·rintro v2 H g1 ⟨hS,hM⟩
   change wpA _ _ _ _ (Fr.of [(2,.b v2)]) _ _
   replace hS:St (·<g) H0 [] H g1:=hS
   replace hM:zev v2=some r:=hM
   refine zaR ?_
   refine zaZ (x:=.b v2) (f:=fun r=>.b r) (.inr rfl) ?_ (.refl _) (Option.some.inj hM) hS
   exact (zax (zae (x:=.b v2) rfl))
  ·refine Rg 16 ?_
   refine Olg (.agg (Box.cells a0)) zcj ?_
   obtain ⟨r3,hr3,hM⟩:=zai hM
   refine zaE (bs:=[.agg (Box.cells a0)]) (by decide) rfl rfl ((zja hr3).le (.k .nil)) ?_
   refine Oi (.b (r3==0)) ?_
   refine Om (.b (r3==0)) ?_
   rcases bft (r3==0) with hb4 | hb4
   ·replace hM:=ifT hM hb4
    refine Oy (want:=true) hb4 ?_
    refine Olg (.agg (Box.cells a0)) zcj ?_
    refine Oy (want:=true) hb4 ?_
    obtain ⟨r5,hr5,hM⟩:=zai hM
    refine zaE (bs:=[.agg (Box.cells a0)]) (by decide) rfl rfl ((zoF hr5).le (.k .nil)) ?_
    refine Oy (want:=true) hb4 ?_
    obtain ⟨r6,hr6,hM⟩:=zai hM
    refine zaE (bs:=[.sl .no 1 (r5.map cI)]) (by decide) rfl rfl ((zmG hr6).le (.k .nil)) ?_
    refine Oy (want:=true) hb4 ?_
    refine Oi (.b (decide (r6>3))) ?_
    refine Oy (want:=true) hb4 ?_
    refine Om (.b (decide (r6>3))) ?_
    rcases bft (decide (r6>3)) with hb7 | hb7
    ·replace hM:=ifT hM hb7
     refine On (want:=false) hb7 ?_
     refine On (want:=false) hb7 ?_
     refine On (want:=false) hb7 ?_
     refine On (want:=false) hb7 ?_
     refine Oy (want:=true) hb4 ?_
     refine Pt (.b true) hb7 ?_
     refine Pt (.b true) hb4 ?_
     refine Oa (.b true) ?_
     refine Ni ?_
     exact zal true (.k .nil) ⟨(hS.keep [] rfl).up (by omega),hM⟩
    ·replace hM:=ifF hM hb7
     refine Oy (want:=false) hb7 ?_
     refine Of ((Box.cells a0)) zcU ?_
     refine Oy (want:=false) hb7 ?_
     refine Olp (.sl .no 1 (a0.Found.map cI)) zau zaO ?_
     refine Oy (want:=false) hb7 ?_
     refine zbA (n:=a0.Found.length) (by decide) rfl (List.length_map _) zaB ?_
     refine Oy (want:=false) hb7 ?_
     refine Oi (.b (decide ((a0.Found.length:Int)>3))) ?_
     refine Oy (want:=true) hb4 ?_
     refine Pf (.b (decide ((a0.Found.length:Int)>3))) hb7 ?_
     refine Pt (.b (decide ((a0.Found.length:Int)>3))) hb4 ?_
     refine Oa (.b (decide ((a0.Found.length:Int)>3))) ?_
     refine Ni ?_
     exact zal (decide ((a0.Found.length:Int)>3)) (.k .nil) ⟨(hS.keep [] rfl).up (by omega),hM⟩
   ·replace hM:=ifF hM hb4
    refine On (want:=true) hb4 ?_
    refine On (want:=true) hb4 ?_
    refine On (want:=true) hb4 ?_
    refine On (want:=true) hb4 ?_
    refine On (want:=true) hb4 ?_
    refine zaG (j:=8) (by decide) rfl ?_
    refine zaG (j:=8) (by decide) rfl ?_
    refine zaG (j:=8) (by decide) rfl ?_
    refine zaG (j:=8) (by decide) rfl ?_
    refine On (want:=true) hb4 ?_
    refine Pf (.b false) hb4 ?_
    refine Oa (.b false) ?_
    refine Ni ?_
    exact zal false (.k .nil) ⟨(hS.keep [] rfl).up (by omega),hM⟩
theorem zmH {n:Nat} {a0:Box} {r:Bool} (hM:zf1 n a0=some r):zaH Try.prog 15 [.agg (Box.cells a0)] (.b r):=by
 refine zak mixed Try.func15 rfl (by decide) Try.ntmps15 (by simp) ?pure fun H0 g hf=>?_
 case pure=>exact .v _
 rw [zag]
 change wpA _ _ _ _ (Fr.of [(0,.agg (Box.cells a0))]) H0 g
 have hS:=St.start hf
 refine Sq ?_
 refine Rg 2 ?_
 refine zb4 (v:=.agg (Box.cells a0)) (cs:=(Box.cells a0)) hS (by decide) rfl rfl (by omega) fun H hS=>?_
 refine Oa (.b false) ?_
 refine Ni ?_
 refine zaX (L':=[]) 0 1 hS rfl rfl rfl fun H hS=>?_
 refine Ws ?_
 refine za1 (J:=Bool) (fun j=>[(2,.b j)]) (fun j H' g'=>St (·<g) H0 [] H' g'/\ze9 j=some r) ?_ ?_
 ·rintro v1 H g1 ⟨hS,hM⟩
  change wpA _ _ _ _ (Fr.of [(2,.b v1)]) _ _
  replace hS:St (·<g) H0 [] H g1:=hS
  replace hM:ze9 v1=some r:=hM
  refine zaR ?_
  refine zaZ (x:=.b v1) (f:=fun r=>.b r) (.inr rfl) ?_ (.refl _) (Option.some.inj hM) hS
  exact (zax (zae (x:=.b v1) rfl))
 ·refine Rg 9 ?_
  refine Olg (.agg (Box.cells a0)) zcj ?_
  obtain ⟨r2,hr2,hM⟩:=zai hM
  refine zaE (bs:=[.agg (Box.cells a0)]) (by decide) rfl rfl ((zoG hr2).le (.k .nil)) ?_
  refine zd4 (e:=r2) (by decide) rfl ?_
  refine Om (.b (!r2)) ?_
  rcases bft (!r2) with hb3 | hb3
  ·replace hM:=ifT hM hb3
   refine Oy (want:=true) hb3 ?_
   refine Olg (.agg (Box.cells a0)) zcj ?_
   refine Oy (want:=true) hb3 ?_
   obtain ⟨r4,hr4,hM⟩:=zai hM
   refine zaE (bs:=[.agg (Box.cells a0)]) (by decide) rfl rfl ((zja hr4).le (.k .nil)) ?_
   refine Oy (want:=true) hb3 ?_
   refine Oi (.b (r4==0)) ?_
   refine Pt (.b (r4==0)) hb3 ?_
   refine Oa (.b (r4==0)) ?_
   refine Ni ?_
   exact zal (r4==0) (.k .nil) ⟨(hS.keep [] rfl).up (by omega),hM⟩
  ·replace hM:=ifF hM hb3
   refine On (want:=true) hb3 ?_
   refine On (want:=true) hb3 ?_
   refine On (want:=true) hb3 ?_
   refine Pf (.b false) hb3 ?_
   refine Oa (.b false) ?_
   refine Ni ?_
   exact zal false (.k .nil) ⟨(hS.keep [] rfl).up (by omega),hM⟩
theorem zdw {a0:Int} {a1:Int} {a2:Int} {r:Bool} (hM:zcQ a0 a1 a2=some r):zaH Try.prog 88 [.i a0,.i a1,.i a2] (.b r):=by
 refine zak mixed Try.func88 rfl (by decide) Try.ntmps88 (by simp) ?pure fun H0 g hf=>?_
 case pure=>exact .v _
 rw [zag]
 change wpA _ _ _ _ (Fr.of [(0,.i a0),(1,.i a1),(2,.i a2)]) H0 g
 have hS:=St.start hf
 refine Sq ?_
 refine Rg 1 ?_
 refine Oa (.b false) ?_
 refine Ni ?_
 refine Ws ?_
 refine za1 (J:=Bool) (fun j=>[(6,.b j)]) (fun j H' g'=>St (·<g) H0 [] H' g'/\zdL j=some r) ?_ ?_
 ·rintro v1 H g1 ⟨hS,hM⟩
  change wpA _ _ _ _ (Fr.of [(6,.b v1)]) _ _
  replace hS:St (·<g) H0 [] H g1:=hS
  replace hM:zdL v1=some r:=hM
  refine zaR ?_
  refine zaZ (x:=.b v1) (f:=fun r=>.b r) (.inr rfl) ?_ (.refl _) (Option.some.inj hM) hS
  exact (zax (zae (x:=.b v1) rfl))
 ·refine Rg 9 ?_
  refine Om (.i a1) ?_
  refine Om (.i a0) ?_
  refine Oi (.b (decide (a1<=a0))) ?_
  refine Om (.b (decide (a1<=a0))) ?_
  rcases bft (decide (a1<=a0)) with hb2 | hb2
  ·replace hM:=ifT hM hb2
   refine Oy (want:=true) hb2 ?_
   refine Om (.i a0) ?_
   refine Oy (want:=true) hb2 ?_
   refine Om (.i a2) ?_
   refine Oy (want:=true) hb2 ?_
   refine Oi (.b (decide (a0<=a2))) ?_
   refine Pt (.b (decide (a0<=a2))) hb2 ?_
   refine Oa (.b (decide (a0<=a2))) ?_
   refine Ni ?_
   exact zal (decide (a0<=a2)) (.k .nil) ⟨(hS.keep [] rfl).up (by omega),hM⟩
  ·replace hM:=ifF hM hb2
   refine On (want:=true) hb2 ?_
   refine On (want:=true) hb2 ?_
   refine On (want:=true) hb2 ?_
   refine Pf (.b false) hb2 ?_
   refine Oa (.b false) ?_
   refine Ni ?_
   exact zal false (.k .nil) ⟨(hS.keep [] rfl).up (by omega),hM⟩
theorem zid {n:Nat} {a0:List Int} {a1:Int} {a2:Int} {r:Bool} (hM:zgm n a0 a1 a2=some r):zaH Try.prog 103 [.sl .no 1 (a0.map cI),.i a1,.i a2] (.b r):=by
 refine zak mixed Try.func103 rfl (by decide) Try.ntmps103 (by simp) ?pure fun H0 g hf=>?_
 case pure=>exact .v _
 rw [zag]
 change wpA _ _ _ _ (Fr.of [(0,.sl .no 1 (a0.map cI)),(1,.i a1),(2,.i a2)]) H0 g
 have hS:=St.start hf
 refine Sq ?_
 refine Rg 1 ?_
 refine Oa (.b false) ?_
 refine Ni ?_
 refine Ws ?_
 refine za1 (J:=Unit) (fun j=>[(0,.sl .no 1 (a0.map cI)),(1,.i a1)]) (fun j H' g'=>St (·<g) H0 [] H' g'/\zeI a0 a1=some r) ?_ ?_
 ·rintro _ H g1 ⟨hS,hM⟩
  change wpA _ _ _ _ (Fr.of [(0,.sl .no 1 (a0.map cI)),(1,.i a1)]) _ _
  replace hS:St (·<g) H0 [] H g1:=hS
  replace hM:zeI a0 a1=some r:=hM
  refine Sq ?_
  refine Rg 5 ?_
  refine Om (.sl .no 1 (a0.map cI)) ?_
  refine zbA (n:=a0.length) (by decide) rfl (List.length_map _) zaB ?_
  refine Om (.i a1) ?_
  refine Oi (.b (decide ((a0.length:Int)<=a1))) ?_
  refine Oa (.b (decide ((a0.length:Int)<=a1))) ?_
  refine Ni ?_
  refine Ws ?_
  refine zaR ?_
  refine zaZ (x:=.b (decide ((a0.length:Int)<=a1))) (f:=fun r=>.b r) (.inr rfl) ?_ (.refl _) (Option.some.inj hM) hS
  exact (zax (zae (x:=.b (decide ((a0.length:Int)<=a1))) rfl))
 ·refine Sq ?_
  refine Rg 3 ?_
  refine Om (.sl .no 1 (a0.map cI)) ?_
  refine zbA (n:=a0.length) (by decide) rfl (List.length_map _) zaB ?_
  refine Om (.i 0) ?_
  refine Ni ?_
  refine Ws ?_
  refine zaK ?_
  refine zct (V:=Int) (fun v=>[(0,.sl .no 1 (a0.map cI)),(1,.i a1),(2,.i a2),(9,.sl .no 1 (a0.map cI)),(10,.i (a0.length:Int)),(11,.i v)]) (fun v m2 H' g'=>St (·<g) H0 [] H' g'/\zbP a0 a1 a2 m2 v=some r) (n:=n) 0 (.k (.k (.k (.k (.k (.k .nil)))))) ⟨(hS.keep [] rfl).up (by omega),hM⟩ ?_
  rintro v1 m2 H g2 ⟨hS,hM⟩
  obtain _ | m2:=m2
  ·exact nomatch (show none=some _ from hM)
  change wpA _ _ _ _ (Fr.of [(0,.sl .no 1 (a0.map cI)),(1,.i a1),(2,.i a2),(9,.sl .no 1 (a0.map cI)),(10,.i (a0.length:Int)),(11,.i v1)]) _ _
  replace hS:St (·<g) H0 [] H g2:=hS
  replace hM:zdV a0 a1 a2 (zbP a0 a1 a2 m2) v1=some r:=hM
  refine Sq ?_
  refine Rg 1 ?_
  refine Oi (.b (decide (v1<(a0.length:Int)))) ?_
  refine Ni ?_
  refine Ws ?_
  refine Sq ?_
  rcases bft (decide (v1<(a0.length:Int))) with hb2 | hb2
  ·replace hM:=ifT hM hb2
   refine Ct hb2 ?_
   refine zaD ?_
   refine Ws ?_
   refine Sq ?_
   refine zaK ?_
   refine Sq ?_
   refine Rg 5 ?_
   refine Om (.i v1) ?_
   obtain ⟨x3,hx3,hM⟩:=zai hM
   refine za5 (xs:=a0) (f:=cI) (z:=v1) (u:=x3) (by decide) rfl rfl zay hx3 ?_
   refine Olp (.i x3) zah zar ?_
   refine Oa (.i v1) ?_
   refine Oa (.i x3) ?_
   refine Ni ?_
   refine Ws ?_
   refine za1 (J:=Bool) (fun j=>[(0,.sl .no 1 (a0.map cI)),(1,.i a1),(2,.i a2),(9,.sl .no 1 (a0.map cI)),(10,.i (a0.length:Int)),(11,.i v1),(32,.b j)]) (fun j H' g'=>St (·<g) H0 [] H' g'/\zco (zbP a0 a1 a2 m2) v1 j=some r) ?_ ?_
   ·rintro v4 H g3 ⟨hS,hM⟩
    change wpA _ _ _ _ (Fr.of [(0,.sl .no 1 (a0.map cI)),(1,.i a1),(2,.i a2),(9,.sl .no 1 (a0.map cI)),(10,.i (a0.length:Int)),(11,.i v1),(32,.b v4)]) _ _
    replace hS:St (·<g) H0 [] H g3:=hS
    replace hM:zco (zbP a0 a1 a2 m2) v1 v4=some r:=hM
    rcases bft v4 with hb5 | hb5
    ·replace hM:=ifT hM hb5
     refine Ct hb5 ?_
     refine Sq ?_
     refine Rg 1 ?_
     refine Oa (.b false) ?_
     refine Ni ?_
     refine Ws ?_
     refine zaR ?_
     refine za2 ?_
     refine zam ?_
     refine zb9 ?_
     refine za2 ?_
     refine zcD ?_
     refine zaZ (x:=.b false) (f:=fun r=>.b r) (.inr rfl) ?_ (.refl _) (Option.some.inj hM) hS
     exact (zax (zae (x:=.b false) rfl))
    ·replace hM:=ifF hM hb5
     refine Cf hb5 ?_
     refine zaD ?_
     refine zat ?_
     refine Ws ?_
     refine Rg 2 ?_
     refine Oi (.i (w64 (v1+1))) ?_
     refine Om (.i (w64 (v1+1))) ?_
     refine Ni ?_
     exact zbq (w64 (v1+1)) (Nat.lt_succ_self _) (.k (.k (.k (.k (.k (.k .nil)))))) ⟨(hS.keep [] rfl).up (by omega),hM⟩
   ·refine Rg 17 ?_
    refine Om (.i x3) ?_
    refine Om (.i a2) ?_
    obtain ⟨r6,hr6,hM⟩:=zai hM
    refine zaE (bs:=[.i x3,.i 1,.i a2]) (by decide) rfl rfl ((zdw hr6).le (.k (.k (.k .nil)))) ?_
    refine zd4 (e:=r6) (by decide) rfl ?_
    refine Om (.b (!r6)) ?_
    rcases bft (!r6) with hb7 | hb7
    ·replace hM:=ifT hM hb7
     refine On (want:=false) hb7 ?_
     refine On (want:=false) hb7 ?_
     refine On (want:=false) hb7 ?_
     refine zaG (j:=7) (by decide) rfl ?_
     refine zaG (j:=7) (by decide) rfl ?_
     refine zaG (j:=7) (by decide) rfl ?_
     refine zaG (j:=7) (by decide) rfl ?_
     refine zaG (j:=7) (by decide) rfl ?_
     refine zaG (j:=7) (by decide) rfl ?_
     refine zaG (j:=7) (by decide) rfl ?_
     refine On (want:=false) hb7 ?_
     refine Pt (.b true) hb7 ?_
     refine Ni ?_
     exact zal true (.k (.k (.k (.k (.k (.k (.k .nil))))))) ⟨(hS.keep [] rfl).up (by omega),hM⟩
    ·replace hM:=ifF hM hb7
     refine Oy (want:=false) hb7 ?_
     refine Om (.i v1) ?_
     refine Oy (want:=false) hb7 ?_
     refine Oi (.b (decide (v1>0))) ?_
     refine Oy (want:=false) hb7 ?_
     refine Om (.b (decide (v1>0))) ?_
     rcases bft (decide (v1>0)) with hb8 | hb8
     ·replace hM:=ifT hM hb8
      refine Oy (want:=true) hb8 ?_
      refine Om (.i x3) ?_
      refine Oy (want:=true) hb8 ?_
      refine Om (.sl .no 1 (a0.map cI)) ?_
      refine Oy (want:=true) hb8 ?_
      refine Om (.i v1) ?_
      refine Oy (want:=true) hb8 ?_
      refine Oi (.i (w64 (v1-1))) ?_
      refine Oy (want:=true) hb8 ?_
      obtain ⟨x9,hx9,hM⟩:=zai hM
      refine za5 (xs:=a0) (f:=cI) (z:=(w64 (v1-1))) (u:=x9) (by decide) rfl rfl zay hx9 ?_
      refine Oy (want:=true) hb8 ?_
      refine Olp (.i x9) zah zar ?_
      refine Oy (want:=true) hb8 ?_
      refine Oi (.b (decide (x3<=x9))) ?_
      refine Oy (want:=false) hb7 ?_
      refine Pt (.b (decide (x3<=x9))) hb8 ?_
      refine Pf (.b (decide (x3<=x9))) hb7 ?_
      refine Ni ?_
      exact zal (decide (x3<=x9)) (.k (.k (.k (.k (.k (.k (.k .nil))))))) ⟨(hS.keep [] rfl).up (by omega),hM⟩
     ·replace hM:=ifF hM hb8
      refine On (want:=true) hb8 ?_
      refine On (want:=true) hb8 ?_
      refine On (want:=true) hb8 ?_
      refine On (want:=true) hb8 ?_
      refine On (want:=true) hb8 ?_
      refine On (want:=true) hb8 ?_
      refine On (want:=true) hb8 ?_
      refine Oy (want:=false) hb7 ?_
      refine Pf (.b false) hb8 ?_
      refine Pf (.b false) hb7 ?_
      refine Ni ?_
      exact zal false (.k (.k (.k (.k (.k (.k (.k .nil))))))) ⟨(hS.keep [] rfl).up (by omega),hM⟩
  ·replace hM:=ifF hM hb2
   refine Cf hb2 ?_
   refine zb1 ?_
   refine zaA ?_
   refine zaz ?_
   refine zaL ?_
   exact zal () (.k (.k .nil)) ⟨(hS.keep [] rfl).up (by omega),hM⟩
theorem zjb {n:Nat} {a0:Wheel} {r:Int} (hM:zf2 n a0=some r):zaH Try.prog 68 [.agg (Wheel.cells a0)] (.i r):=by
 refine zak mixed Try.func68 rfl (by decide) Try.ntmps68 (by simp) ?pure fun H0 g hf=>?_
 case pure=>exact .v _
 rw [zag]
 change wpA _ _ _ _ (Fr.of [(0,.agg (Wheel.cells a0))]) H0 g
 have hS:=St.start hf
 refine Sq ?_
 refine Rg 2 ?_
 refine zb4 (v:=.agg (Wheel.cells a0)) (cs:=(Wheel.cells a0)) hS (by decide) rfl rfl (by omega) fun H hS=>?_
 refine Oa (.i 0) ?_
 refine Ni ?_
 refine zaX (L':=[]) 0 1 hS rfl rfl rfl fun H hS=>?_
 refine Ws ?_
 refine Sq ?_
 refine za1 (J:=Bool) (fun j=>[(20,.b j)]) (fun j H' g'=>St (·<g) H0 [] H' g'/\zdt j=some r) ?_ ?_
 ·rintro v1 H g1 ⟨hS,hM⟩
  change wpA _ _ _ _ (Fr.of [(20,.b v1)]) _ _
  replace hS:St (·<g) H0 [] H g1:=hS
  replace hM:zdt v1=some r:=hM
  rcases bft v1 with hb2 | hb2
  ·replace hM:=ifT hM hb2
   refine Ct hb2 ?_
   refine Sq ?_
   refine Rg 1 ?_
   refine Oa (.i 10) ?_
   refine Ni ?_
   refine Ws ?_
   refine zaR ?_
   refine zam ?_
   refine zaZ (x:=.i 10) (f:=fun r=>.i r) (.inr rfl) ?_ (.refl _) (Option.some.inj hM) hS
   exact (zax (zae (x:=.i 10) rfl))
  ·replace hM:=ifF hM hb2
   refine Cf hb2 ?_
   refine zaD ?_
   refine Ws ?_
   refine Sq ?_
   refine Rg 1 ?_
   refine Oa (.i 0) ?_
   refine Ni ?_
   refine Ws ?_
   refine zaR ?_
   refine zaZ (x:=.i 0) (f:=fun r=>.i r) (.inr rfl) ?_ (.refl _) (Option.some.inj hM) hS
   exact (zax (zae (x:=.i 0) rfl))
 ·refine Rg 18 ?_
  refine Of ((Wheel.cells a0)) zdq ?_
  refine Olp (.i a0.Round) zah zar ?_
  obtain ⟨r3,hr3,hM⟩:=zai hM
  refine zaE (bs:=[.i a0.Round,.i 1,.i 200]) (by decide) rfl rfl ((zdw hr3).le (.k (.k (.k .nil)))) ?_
  refine zd4 (e:=r3) (by decide) rfl ?_
  refine Om (.b (!r3)) ?_
  rcases bft (!r3) with hb4 | hb4
  ·replace hM:=ifT hM hb4
   refine On (want:=false) hb4 ?_
   refine On (want:=false) hb4 ?_
   refine On (want:=false) hb4 ?_
   refine On (want:=false) hb4 ?_
   refine On (want:=false) hb4 ?_
   refine On (want:=false) hb4 ?_
   refine Pt (.b true) hb4 ?_
   refine Om (.b true) ?_
   refine Og ?_
   refine Og ?_
   refine Og ?_
   refine Og ?_
   refine zcW (v:=.b true) (e:=true) (by decide) rfl rfl rfl ?_
   refine Ni ?_
   exact zal true (.k .nil) ⟨(hS.keep [] rfl).up (by omega),hM⟩
  ·replace hM:=ifF hM hb4
   refine Oy (want:=false) hb4 ?_
   refine Of ((Wheel.cells a0)) zfv ?_
   refine Oy (want:=false) hb4 ?_
   refine Olp (.sl .no 1 (a0.Notches.map cI)) zau zaO ?_
   refine Oy (want:=false) hb4 ?_
   refine Of ((Wheel.cells a0)) zdq ?_
   refine Oy (want:=false) hb4 ?_
   refine Olp (.i a0.Round) zah zar ?_
   refine Oy (want:=false) hb4 ?_
   obtain ⟨r5,hr5,hM⟩:=zai hM
   refine zaE (bs:=[.sl .no 1 (a0.Notches.map cI),.i 12,.i a0.Round]) (by decide) rfl rfl ((zid hr5).le (.k (.k (.k .nil)))) ?_
   refine Oy (want:=false) hb4 ?_
   refine zd4 (e:=r5) (by decide) rfl ?_
   refine Pf (.b (!r5)) hb4 ?_
   refine Om (.b (!r5)) ?_
   rcases bft (!r5) with hb6 | hb6
   ·replace hM:=ifT hM hb6
    refine On (want:=false) hb6 ?_
    refine On (want:=false) hb6 ?_
    refine On (want:=false) hb6 ?_
    refine On (want:=false) hb6 ?_
    refine Pt (.b true) hb6 ?_
    refine Ni ?_
    exact zal true (.k .nil) ⟨(hS.keep [] rfl).up (by omega),hM⟩
   ·replace hM:=ifF hM hb6
    refine Oy (want:=false) hb6 ?_
    refine Of ((Wheel.cells a0)) zbL ?_
    refine Oy (want:=false) hb6 ?_
    refine Olp (.sl .no 1 (a0.Coins.map cI)) zau zaO ?_
    refine Oy (want:=false) hb6 ?_
    obtain ⟨r7,hr7,hM⟩:=zai hM
    refine zaE (bs:=[.sl .no 1 (a0.Coins.map cI),.i 4,.i 100]) (by decide) rfl rfl ((zid hr7).le (.k (.k (.k .nil)))) ?_
    refine Oy (want:=false) hb6 ?_
    refine zd4 (e:=r7) (by decide) rfl ?_
    refine Pf (.b (!r7)) hb6 ?_
    refine Ni ?_
    exact zal (!r7) (.k .nil) ⟨(hS.keep [] rfl).up (by omega),hM⟩
theorem zek {a0:Int} {a1:Int} {a2:Int} {r:Bool} (hM:zcY a0 a1 a2=some r):zaH Try.prog 69 [.i a0,.i a1,.i a2] (.b r):=by
 refine zak mixed Try.func69 rfl (by decide) Try.ntmps69 (by simp) ?pure fun H0 g hf=>?_
 case pure=>exact .v _
 rw [zag]
 change wpA _ _ _ _ (Fr.of [(0,.i a0),(1,.i a1),(2,.i a2)]) H0 g
 have hS:=St.start hf
 refine Sq ?_
 refine Rg 1 ?_
 refine Oa (.b false) ?_
 refine Ni ?_
 refine Ws ?_
 refine za1 (J:=Bool) (fun j=>[(6,.b j)]) (fun j H' g'=>St (·<g) H0 [] H' g'/\zc3 j=some r) ?_ ?_
 ·rintro v1 H g1 ⟨hS,hM⟩
  change wpA _ _ _ _ (Fr.of [(6,.b v1)]) _ _
  replace hS:St (·<g) H0 [] H g1:=hS
  replace hM:zc3 v1=some r:=hM
  refine zaR ?_
  refine zaZ (x:=.b v1) (f:=fun r=>.b r) (.inr rfl) ?_ (.refl _) (Option.some.inj hM) hS
  exact (zax (zae (x:=.b v1) rfl))
 ·refine Rg 9 ?_
  refine Om (.i a1) ?_
  refine Om (.i a0) ?_
  refine Oi (.b (decide (a1<=a0))) ?_
  refine Om (.b (decide (a1<=a0))) ?_
  rcases bft (decide (a1<=a0)) with hb2 | hb2
  ·replace hM:=ifT hM hb2
   refine Oy (want:=true) hb2 ?_
   refine Om (.i a0) ?_
   refine Oy (want:=true) hb2 ?_
   refine Om (.i a2) ?_
   refine Oy (want:=true) hb2 ?_
   refine Oi (.b (decide (a0<=a2))) ?_
   refine Pt (.b (decide (a0<=a2))) hb2 ?_
   refine Oa (.b (decide (a0<=a2))) ?_
   refine Ni ?_
   exact zal (decide (a0<=a2)) (.k .nil) ⟨(hS.keep [] rfl).up (by omega),hM⟩
  ·replace hM:=ifF hM hb2
   refine On (want:=true) hb2 ?_
   refine On (want:=true) hb2 ?_
   refine On (want:=true) hb2 ?_
   refine Pf (.b false) hb2 ?_
   refine Oa (.b false) ?_
   refine Ni ?_
   exact zal false (.k .nil) ⟨(hS.keep [] rfl).up (by omega),hM⟩
theorem zhk {S:Type} {Lo:S->BL} (hk:∀s s',zls (Lo s) (Lo s')) (hnd:∀s,(ids (Lo s)).Nodup) (hin:∀s,InB In (Lo s)) {aF:Int->S->Option (Bool×S)} {f0:AV} (hF:∀s H,Has H (Lo s)->In H f0) (h0:cellsOf f0=some [f0]) (hf:∀{x0:Int} {s:S} {r:Bool×S},aF x0 s=some r->zpZ Try.prog f0 [.i x0] (Lo s) (.b r.1) (Lo r.2)) {n:Nat} {a0:List Int} {st:S} {r:Int×S} (hM:zc0 n aF a0 st=some r):zjZ Try.prog 104 [.sl .no 1 (a0.map cI),f0] (Lo st) (.i r.1) (Lo r.2):=by
 have hnd0:∀s,(ids (Lo s)).Nodup:=fun s=>hnd s
 refine zds mixed Try.func104 rfl (by decide) Try.ntmps104 (by simp) (hk _ _) (hnd st) ?pure ?cells fun H0 g hf_ hp=>?_
 case pure=>exact fun H _=>(show Go.AM.Pure _ from .v _).inH
 case cells=>exact hin _
 rw [zag]
 change wpA _ _ _ _ (Fr.of [(0,.sl .no 1 (a0.map cI)),(1,f0)]) H0 g
 have hS:=St.startH (L:=([]++Lo st)) hf_ (hnd st) hp
 replace hS:St (fun i=>i<g/\i∉ids (Lo st)) H0 ([]++Lo st) H0 g:=hS
 refine Sq ?_
 refine Rg 1 ?_
 refine Oa (.i 0) ?_
 refine Ni ?_
 refine Ws ?_
 refine za1 (J:=S) (fun j=>[]) (fun j H' g'=>St (fun i=>i<g/\i∉ids (Lo st)) H0 ([]++Lo j) H' g'/\zbQ j=some r) ?_ ?_
 ·rintro v1 H g1 ⟨hS,hM⟩
  change wpA _ _ _ _ (Fr.of []) _ _
  replace hS:St (fun i=>i<g/\i∉ids (Lo st)) H0 ([]++Lo v1) H g1:=hS
  replace hM:zbQ v1=some r:=hM
  refine Sq ?_
  refine Rg 1 ?_
  refine Oa (.i (-1)) ?_
  refine Ni ?_
  refine Ws ?_
  refine zaR ?_
  refine zfm (x:=.i (-1)) (f:=fun r=>.i r.1) (fd:=fun r=>(Lo r.2)) (.inr rfl) ?_ (.refl _) (Option.some.inj hM) hS 0 rfl
  exact (zax (zae (x:=.i (-1)) rfl))
 ·refine Sq ?_
  refine Rg 3 ?_
  refine Om (.sl .no 1 (a0.map cI)) ?_
  refine zbA (n:=a0.length) (by decide) rfl (List.length_map _) zaB ?_
  refine Om (.i 0) ?_
  refine Ni ?_
  refine Ws ?_
  refine zaK ?_
  refine zct (V:=Int×S) (fun v=>[(0,.sl .no 1 (a0.map cI)),(1,f0),(7,.i (a0.length:Int)),(8,.i v.1)]) (fun v m3 H' g'=>St (fun i=>i<g/\i∉ids (Lo st)) H0 ([]++Lo v.2) H' g'/\zas a0 aF m3 v.1 v.2=some r) (n:=n) (0,st) (.k (.k (.k (.k .nil)))) ⟨(hS.keep [] rfl).up (by omega),hM⟩ ?_
  rintro ⟨v3,v4⟩ m3 H g3 ⟨hS,hM⟩
  obtain _ | m3:=m3
  ·exact nomatch (show none=some _ from hM)
  change wpA _ _ _ _ (Fr.of [(0,.sl .no 1 (a0.map cI)),(1,f0),(7,.i (a0.length:Int)),(8,.i v3)]) _ _
  replace hS:St (fun i=>i<g/\i∉ids (Lo st)) H0 ([]++Lo v4) H g3:=hS
  replace hM:zbb a0 aF (zas a0 aF m3) v3 v4=some r:=hM
  refine Sq ?_
  refine Rg 1 ?_
  refine Oi (.b (decide (v3<(a0.length:Int)))) ?_
  refine Ni ?_
  refine Ws ?_
  refine Sq ?_
  rcases bft (decide (v3<(a0.length:Int))) with hb5 | hb5
  ·replace hM:=ifT hM hb5
   refine Ct hb5 ?_
   refine zaD ?_
   refine Ws ?_
   refine Sq ?_
   refine zaK ?_
   refine Sq ?_
   refine Rg 2 ?_
   refine Om (.i v3) ?_
   refine Oa (.i v3) ?_
   refine Ni ?_
   refine Ws ?_
   refine Sq ?_
   refine Rg 6 ?_
   refine Om (f0) ?_
   refine Om (.sl .no 1 (a0.map cI)) ?_
   refine Om (.i v3) ?_
   obtain ⟨x6,hx6,hM⟩:=zai hM
   refine za5 (xs:=a0) (f:=cI) (z:=v3) (u:=x6) (by decide) rfl rfl zay hx6 ?_
   refine Olp (.i x6) zah zar ?_
   obtain ⟨r7,hr7,hM⟩:=zai hM
   replace hS:St (fun i=>i<g/\i∉ids (Lo st)) H0 ([]++Lo v4) _ _:=hS
   refine zkK (bs:=[.i x6]) (.inl rfl) hS (by decide) rfl rfl ((hf hr7).le (.k .nil)) (hk _ _).ids (by omega) fun H hS=>?_
   refine Ni ?_
   refine Ws ?_
   rcases bft r7.1 with hb8 | hb8
   ·replace hM:=ifT hM hb8
    refine Ct hb8 ?_
    refine Sq ?_
    refine Rg 2 ?_
    refine Om (.i v3) ?_
    refine Oa (.i v3) ?_
    refine Ni ?_
    refine Ws ?_
    refine zaR ?_
    refine za2 ?_
    refine zam ?_
    refine zb9 ?_
    refine za2 ?_
    refine zcD ?_
    refine zfm (x:=.i v3) (f:=fun r=>.i r.1) (fd:=fun r=>(Lo r.2)) (.inr rfl) ?_ (.refl _) (Option.some.inj hM) hS 0 rfl
    exact (zax (zae (x:=.i v3) rfl))
   ·replace hM:=ifF hM hb8
    refine Cf hb8 ?_
    refine zaD ?_
    refine zat ?_
    refine Ws ?_
    refine Rg 2 ?_
    refine Oi (.i (w64 (v3+1))) ?_
    refine Om (.i (w64 (v3+1))) ?_
    refine Ni ?_
    exact zbq (w64 (v3+1),r7.2) (Nat.lt_succ_self _) (.k (.k (.k (.k .nil)))) ⟨(hS.keep [] rfl).up (by omega),hM⟩
  ·replace hM:=ifF hM hb5
   refine Cf hb5 ?_
   refine zb1 ?_
   refine zaA ?_
   refine zaz ?_
   refine zaL ?_
   exact zal v4 .nil ⟨(hS.keep [] rfl).up (by omega),hM⟩
theorem zeb {S:Type} {Lo:S->BL} (hk:∀s s',zls (Lo s) (Lo s')) (hnd:∀s,(ids (Lo s)).Nodup) (hin:∀s,InB In (Lo s)) {aF:Int->S->Option (Bool×S)} {f0:AV} (hF:∀s H,Has H (Lo s)->In H f0) (h0:cellsOf f0=some [f0]) (hf:∀{x0:Int} {s:S} {r:Bool×S},aF x0 s=some r->zpZ Try.prog f0 [.i x0] (Lo s) (.b r.1) (Lo r.2)) {n:Nat} {a0:List Int} {st:S} {r:Bool×S} (hM:zbr n aF a0 st=some r):zjZ Try.prog 70 [.sl .no 1 (a0.map cI),f0] (Lo st) (.b r.1) (Lo r.2):=by
 have hnd0:∀s,(ids (Lo s)).Nodup:=fun s=>hnd s
 refine zds mixed Try.func70 rfl (by decide) Try.ntmps70 (by simp) (hk _ _) (hnd st) ?pure ?cells fun H0 g hf_ hp=>?_
 case pure=>exact fun H _=>(show Go.AM.Pure _ from .v _).inH
 case cells=>exact hin _
 rw [zag]
 change wpA _ _ _ _ (Fr.of [(0,.sl .no 1 (a0.map cI)),(1,f0)]) H0 g
 have hS:=St.startH (L:=([]++Lo st)) hf_ (hnd st) hp
 replace hS:St (fun i=>i<g/\i∉ids (Lo st)) H0 ([]++Lo st) H0 g:=hS
 refine Sq ?_
 refine Rg 1 ?_
 refine Oa (.b false) ?_
 refine Ni ?_
 refine Ws ?_
 refine Sq ?_
 refine Rg 5 ?_
 refine Om (.sl .no 1 (a0.map cI)) ?_
 refine Om (f0) ?_
 obtain ⟨r1,hr1,hM⟩:=zai hM
 replace hS:St (fun i=>i<g/\i∉ids (Lo st)) H0 ([]++Lo st) _ _:=hS
 refine zpd (bs:=[.sl .no 1 (a0.map cI),f0]) (.inl rfl) hS (by decide) rfl rfl ((zhk (Lo:=Lo)  hk hnd0 hin (aF:=aF) hF h0 hf hr1).le (.k (.k .nil))) (hk _ _).ids (by omega) fun H hS=>?_
 refine Oi (.b (decide (r1.1≥0))) ?_
 refine Oa (.b (decide (r1.1≥0))) ?_
 refine Ni ?_
 refine zeF [(4,.b (decide (r1.1≥0)))] (.k .nil) ?_
 refine zaR ?_
 refine zfm (x:=.b (decide (r1.1≥0))) (f:=fun r=>.b r.1) (fd:=fun r=>(Lo r.2)) (.inr rfl) ?_ (.refl _) (Option.some.inj hM) hS 0 rfl
 exact (zax (zae (x:=.b (decide (r1.1≥0))) rfl))
theorem zjc {a0:Int} {r:Bool} (hM:zdj a0=some r):zaH Try.prog 71 [.i a0] (.b r):=by
 refine zak mixed Try.func71 rfl (by decide) Try.ntmps71 (by simp) ?pure fun H0 g hf=>?_
 case pure=>exact .v _
 rw [zag]
 change wpA _ _ _ _ (Fr.of [(0,.i a0)]) H0 g
 have hS:=St.start hf
 refine Sq ?_
 refine Rg 1 ?_
 refine Oa (.b false) ?_
 refine Ni ?_
 refine Ws ?_
 refine Sq ?_
 refine Rg 4 ?_
 refine Om (.i a0) ?_
 obtain ⟨r1,hr1,hM⟩:=zai hM
 refine zaE (bs:=[.i a0,.i 0,.i 12]) (by decide) rfl rfl ((zek hr1).le (.k (.k (.k .nil)))) ?_
 refine zd4 (e:=r1) (by decide) rfl ?_
 refine Oa (.b (!r1)) ?_
 refine Ni ?_
 refine zeF [(2,.b (!r1))] (.k .nil) ?_
 refine zaR ?_
 refine zaZ (x:=.b (!r1)) (f:=fun r=>.b r) (.inr rfl) ?_ (.refl _) (Option.some.inj hM) hS
 exact (zax (zae (x:=.b (!r1)) rfl))
theorem zk7 {n:Nat} {a0:Box} {r:Int} (hM:zfJ n a0=some r):zaH Try.prog 33 [.agg (Box.cells a0)] (.i r):=by
 refine zak mixed Try.func33 rfl (by decide) Try.ntmps33 (by simp) ?pure fun H0 g hf=>?_
 case pure=>exact .v _
 rw [zag]
 change wpA _ _ _ _ (Fr.of [(0,.agg (Box.cells a0))]) H0 g
 have hS:=St.start hf
 refine Sq ?_
 refine Rg 2 ?_
 refine zb4 (v:=.agg (Box.cells a0)) (cs:=(Box.cells a0)) hS (by decide) rfl rfl (by omega) fun H hS=>?_
 refine Oa (.i 0) ?_
 refine Ni ?_
 refine zaX (L':=[]) 0 1 hS rfl rfl rfl fun H hS=>?_
 refine Ws ?_
 refine Sq ?_
 refine za1 (J:=Bool) (fun j=>[(1,.ep (Box.cells a0)),(23,.b j)]) (fun j H' g'=>St (·<g) H0 [] H' g'/\zcM n a0 j=some r) ?_ ?_
 ·rintro v1 H g1 ⟨hS,hM⟩
  change wpA _ _ _ _ (Fr.of [(1,.ep (Box.cells a0)),(23,.b v1)]) _ _
  replace hS:St (·<g) H0 [] H g1:=hS
  replace hM:zcM n a0 v1=some r:=hM
  rcases bft v1 with hb2 | hb2
  ·replace hM:=ifT hM hb2
   refine Ct hb2 ?_
   refine Sq ?_
   refine Rg 1 ?_
   refine Oa (.i 50) ?_
   refine Ni ?_
   refine Ws ?_
   refine zaR ?_
   refine zam ?_
   refine zaZ (x:=.i 50) (f:=fun r=>.i r) (.inr rfl) ?_ (.refl _) (Option.some.inj hM) hS
   exact (zax (zae (x:=.i 50) rfl))
  ·replace hM:=ifF hM hb2
   refine Cf hb2 ?_
   refine zaD ?_
   refine Ws ?_
   refine Sq ?_
   refine Rg 1 ?_
   refine Oa (.i 0) ?_
   refine Ni ?_
   refine Ws ?_
   refine za1 (J:=Unit) (fun j=>[(1,.ep (Box.cells a0)),(3,.i 0)]) (fun j H' g'=>St (·<g) H0 [] H' g'/\zfE n a0=some r) ?_ ?_
   ·rintro _ H g2 ⟨hS,hM⟩
    change wpA _ _ _ _ (Fr.of [(1,.ep (Box.cells a0)),(3,.i 0)]) _ _
    replace hS:St (·<g) H0 [] H g2:=hS
    replace hM:zfE n a0=some r:=hM
    refine za1 (J:=Int) (fun j=>[(3,.i j)]) (fun j H' g'=>St (·<g) H0 [] H' g'/\zeh j=some r) ?_ ?_
    ·rintro v3 H g3 ⟨hS,hM⟩
     change wpA _ _ _ _ (Fr.of [(3,.i v3)]) _ _
     replace hS:St (·<g) H0 [] H g3:=hS
     replace hM:zeh v3=some r:=hM
     refine Sq ?_
     refine Sq ?_
     refine Rg 2 ?_
     refine Om (.i v3) ?_
     refine Oi (.b (decide (v3>12))) ?_
     refine Ni ?_
     refine Ws ?_
     rcases bft (decide (v3>12)) with hb4 | hb4
     ·replace hM:=ifT hM hb4
      refine Ct hb4 ?_
      refine Sq ?_
      refine Rg 1 ?_
      refine Oa (.i 50) ?_
      refine Ni ?_
      refine Ws ?_
      refine zaR ?_
      refine zam ?_
      refine zaZ (x:=.i 50) (f:=fun r=>.i r) (.inr rfl) ?_ (.refl _) (Option.some.inj hM) hS
      exact (zax (zae (x:=.i 50) rfl))
     ·replace hM:=ifF hM hb4
      refine Cf hb4 ?_
      refine zaD ?_
      refine Ws ?_
      refine Sq ?_
      refine Rg 1 ?_
      refine Oa (.i 0) ?_
      refine Ni ?_
      refine Ws ?_
      refine zaR ?_
      refine zaZ (x:=.i 0) (f:=fun r=>.i r) (.inr rfl) ?_ (.refl _) (Option.some.inj hM) hS
      exact (zax (zae (x:=.i 0) rfl))
    ·refine Sq ?_
     refine Rg 4 ?_
     refine Of ((Box.cells a0)) zcU ?_
     refine Olp (.sl .no 1 (a0.Found.map cI)) zau zaO ?_
     refine zbA (n:=a0.Found.length) (by decide) rfl (List.length_map _) zaB ?_
     refine Om (.i 0) ?_
     refine Ni ?_
     refine Ws ?_
     refine zaK ?_
     refine zct (V:=Int×Int) (fun v=>[(1,.ep (Box.cells a0)),(3,.i v.1),(47,.sl .no 1 (a0.Found.map cI)),(48,.i (a0.Found.length:Int)),(49,.i v.2)]) (fun v m4 H' g'=>St (·<g) H0 [] H' g'/\zbB a0 m4 v.1 v.2=some r) (n:=n) (0,0) (.k (.k (.k (.k (.k .nil))))) ⟨(hS.keep [] rfl).up (by omega),hM⟩ ?_
     rintro ⟨v5,v6⟩ m4 H g4 ⟨hS,hM⟩
     obtain _ | m4:=m4
     ·exact nomatch (show none=some _ from hM)
     change wpA _ _ _ _ (Fr.of [(1,.ep (Box.cells a0)),(3,.i v5),(47,.sl .no 1 (a0.Found.map cI)),(48,.i (a0.Found.length:Int)),(49,.i v6)]) _ _
     replace hS:St (·<g) H0 [] H g4:=hS
     replace hM:zdz a0 (zbB a0 m4) v5 v6=some r:=hM
     refine Sq ?_
     refine Rg 1 ?_
     refine Oi (.b (decide (v6<(a0.Found.length:Int)))) ?_
     refine Ni ?_
     refine Ws ?_
     refine Sq ?_
     rcases bft (decide (v6<(a0.Found.length:Int))) with hb7 | hb7
     ·replace hM:=ifT hM hb7
      refine Ct hb7 ?_
      refine zaD ?_
      refine Ws ?_
      refine Sq ?_
      refine zaK ?_
      refine Sq ?_
      refine Rg 5 ?_
      refine Om (.i v6) ?_
      obtain ⟨x8,hx8,hM⟩:=zai hM
      refine za5 (xs:=a0.Found) (f:=cI) (z:=v6) (u:=x8) (by decide) rfl rfl zay hx8 ?_
      refine Olp (.i x8) zah zar ?_
      refine Oa (.i v6) ?_
      refine Oa (.i x8) ?_
      refine Ni ?_
      refine Ws ?_
      refine Sq ?_
      refine Sq ?_
      refine Rg 7 ?_
      refine Of ((Box.cells a0)) zfw ?_
      refine Olp (.sl .no 1 (a0.Marked.map cI)) zau zaO ?_
      refine Om (.i v6) ?_
      obtain ⟨x9,hx9,hM⟩:=zai hM
      refine za5 (xs:=a0.Marked) (f:=cI) (z:=v6) (u:=x9) (by decide) rfl rfl zay hx9 ?_
      refine Olp (.i x9) zah zar ?_
      refine Om (.i x8) ?_
      refine Oi (.b (decide (x9>x8))) ?_
      refine Ni ?_
      refine Ws ?_
      rcases bft (decide (x9>x8)) with hb10 | hb10
      ·replace hM:=ifT hM hb10
       refine Ct hb10 ?_
       refine Sq ?_
       refine Rg 1 ?_
       refine Oa (.i 50) ?_
       refine Ni ?_
       refine Ws ?_
       refine zaR ?_
       refine zam ?_
       refine za2 ?_
       refine zam ?_
       refine zb9 ?_
       refine za2 ?_
       refine zcD ?_
       refine zaZ (x:=.i 50) (f:=fun r=>.i r) (.inr rfl) ?_ (.refl _) (Option.some.inj hM) hS
       exact (zax (zae (x:=.i 50) rfl))
      ·replace hM:=ifF hM hb10
       refine Cf hb10 ?_
       refine zaD ?_
       refine Ws ?_
       refine Rg 10 ?_
       refine Om (.i v5) ?_
       refine Om (.i x8) ?_
       refine Of ((Box.cells a0)) zd9 ?_
       refine Olp (.sl .no 1 (a0.Slugs.map cI)) zau zaO ?_
       refine Om (.i v6) ?_
       obtain ⟨x11,hx11,hM⟩:=zai hM
       refine za5 (xs:=a0.Slugs) (f:=cI) (z:=v6) (u:=x11) (by decide) rfl rfl zay hx11 ?_
       refine Olp (.i x11) zah zar ?_
       refine Oi (.i (w64 (x8+x11))) ?_
       refine Oi (.i (w64 (v5+(w64 (x8+x11))))) ?_
       refine Oa (.i (w64 (v5+(w64 (x8+x11))))) ?_
       refine Ni ?_
       refine zat ?_
       refine Ws ?_
       refine Rg 2 ?_
       refine Oi (.i (w64 (v6+1))) ?_
       refine Om (.i (w64 (v6+1))) ?_
       refine Ni ?_
       exact zbq (w64 (v5+(w64 (x8+x11))),w64 (v6+1)) (Nat.lt_succ_self _) (.k (.k (.k (.k (.k .nil))))) ⟨(hS.keep [] rfl).up (by omega),hM⟩
     ·replace hM:=ifF hM hb7
      refine Cf hb7 ?_
      refine zb1 ?_
      refine zaA ?_
      refine zaz ?_
      refine zaL ?_
      exact zal v5 (.k .nil) ⟨(hS.keep [] rfl).up (by omega),hM⟩
   ·refine Sq ?_
    refine Rg 8 ?_
    refine Of ((Box.cells a0)) zcU ?_
    refine Olp (.sl .no 1 (a0.Found.map cI)) zau zaO ?_
    refine Of ((Box.cells a0)) zfw ?_
    refine Olp (.sl .no 1 (a0.Marked.map cI)) zau zaO ?_
    refine Of ((Box.cells a0)) zd9 ?_
    refine Olp (.sl .no 1 (a0.Slugs.map cI)) zau zaO ?_
    refine zbx (cs:=[.sl .no 1 (a0.Found.map cI),.sl .no 1 (a0.Marked.map cI),.sl .no 1 (a0.Slugs.map cI)]) (by decide) zqE ztA rfl ?_
    refine Om (.i 0) ?_
    refine Ni ?_
    refine Ws ?_
    refine zaK ?_
    refine zct (V:=Int) (fun v=>[(1,.ep (Box.cells a0)),(3,.i 0),(30,.agg [.sl .no 1 (a0.Found.map cI),.sl .no 1 (a0.Marked.map cI),.sl .no 1 (a0.Slugs.map cI)]),(31,.i v)]) (fun v m5 H' g'=>St (·<g) H0 [] H' g'/\zaQ n a0 m5 v=some r) (n:=n) 0 (.k (.k (.k (.k .nil)))) ⟨(hS.keep [] rfl).up (by omega),hM⟩ ?_
    rintro v12 m5 H g5 ⟨hS,hM⟩
    obtain _ | m5:=m5
    ·exact nomatch (show none=some _ from hM)
    change wpA _ _ _ _ (Fr.of [(1,.ep (Box.cells a0)),(3,.i 0),(30,.agg [.sl .no 1 (a0.Found.map cI),.sl .no 1 (a0.Marked.map cI),.sl .no 1 (a0.Slugs.map cI)]),(31,.i v12)]) _ _
    replace hS:St (·<g) H0 [] H g5:=hS
    replace hM:zeJ n a0 (zaQ n a0 m5) v12=some r:=hM
    refine Sq ?_
    refine Rg 1 ?_
    refine Oi (.b (decide (v12<3))) ?_
    refine Ni ?_
    refine Ws ?_
    refine Sq ?_
    rcases bft (decide (v12<3)) with hb13 | hb13
    ·replace hM:=ifT hM hb13
     refine Ct hb13 ?_
     refine zaD ?_
     refine Ws ?_
     refine Sq ?_
     refine zaK ?_
     refine Sq ?_
     refine Rg 2 ?_
     obtain ⟨x14,hx14,hM⟩:=zai hM
     refine zmq (v:=.sl .no 1 (x14.map cI)) (cs:=[.sl .no 1 (a0.Found.map cI),.sl .no 1 (a0.Marked.map cI),.sl .no 1 (a0.Slugs.map cI)]) (z:=v12) (by decide) rfl rfl zr9 (zfs hx14).1 (zox hx14) (zty (xs:=([a0.Found,a0.Marked,a0.Slugs]:List (List Int))) (f:=cI) zau zaO hx14) ?_
     refine Oa (.sl .no 1 (x14.map cI)) ?_
     refine Ni ?_
     refine Ws ?_
     refine za1 (J:=Bool) (fun j=>[(1,.ep (Box.cells a0)),(3,.i 0),(30,.agg [.sl .no 1 (a0.Found.map cI),.sl .no 1 (a0.Marked.map cI),.sl .no 1 (a0.Slugs.map cI)]),(31,.i v12),(44,.b j)]) (fun j H' g'=>St (·<g) H0 [] H' g'/\zdk (zaQ n a0 m5) v12 j=some r) ?_ ?_
     ·rintro v15 H g6 ⟨hS,hM⟩
      change wpA _ _ _ _ (Fr.of [(1,.ep (Box.cells a0)),(3,.i 0),(30,.agg [.sl .no 1 (a0.Found.map cI),.sl .no 1 (a0.Marked.map cI),.sl .no 1 (a0.Slugs.map cI)]),(31,.i v12),(44,.b v15)]) _ _
      replace hS:St (·<g) H0 [] H g6:=hS
      replace hM:zdk (zaQ n a0 m5) v12 v15=some r:=hM
      rcases bft v15 with hb16 | hb16
      ·replace hM:=ifT hM hb16
       refine Ct hb16 ?_
       refine Sq ?_
       refine Rg 1 ?_
       refine Oa (.i 50) ?_
       refine Ni ?_
       refine Ws ?_
       refine zaR ?_
       refine za2 ?_
       refine zam ?_
       refine zb9 ?_
       refine za2 ?_
       refine zcD ?_
       refine zaZ (x:=.i 50) (f:=fun r=>.i r) (.inr rfl) ?_ (.refl _) (Option.some.inj hM) hS
       exact (zax (zae (x:=.i 50) rfl))
      ·replace hM:=ifF hM hb16
       refine Cf hb16 ?_
       refine zaD ?_
       refine zat ?_
       refine Ws ?_
       refine Rg 2 ?_
       refine Oi (.i (w64 (v12+1))) ?_
       refine Om (.i (w64 (v12+1))) ?_
       refine Ni ?_
       exact zbq (w64 (v12+1)) (Nat.lt_succ_self _) (.k (.k (.k (.k .nil)))) ⟨(hS.keep [] rfl).up (by omega),hM⟩
     ·refine Rg 11 ?_
      refine Om (.sl .no 1 (x14.map cI)) ?_
      refine zbA (n:=x14.length) (by decide) rfl (List.length_map _) zaB ?_
      refine Of ((Box.cells a0)) zcH ?_
      refine Of ((Box.cells a0)) zbL ?_
      refine Olp (.sl .no 1 (a0.Wheel.Coins.map cI)) zau zaO ?_
      refine zbA (n:=a0.Wheel.Coins.length) (by decide) rfl (List.length_map _) zaB ?_
      refine Oi (.b ((x14.length:Int) != (a0.Wheel.Coins.length:Int))) ?_
      refine Om (.b ((x14.length:Int) != (a0.Wheel.Coins.length:Int))) ?_
      rcases bft ((x14.length:Int) != (a0.Wheel.Coins.length:Int)) with hb17 | hb17
      ·replace hM:=ifT hM hb17
       refine On (want:=false) hb17 ?_
       refine On (want:=false) hb17 ?_
       refine Pt (.b true) hb17 ?_
       refine Ni ?_
       exact zal true (.k (.k (.k (.k (.k .nil))))) ⟨(hS.keep [] rfl).up (by omega),hM⟩
      ·replace hM:=ifF hM hb17
       refine Oy (want:=false) hb17 ?_
       refine Om (.sl .no 1 (x14.map cI)) ?_
       refine Oy (want:=false) hb17 ?_
       obtain ⟨r18,hr18,hM⟩:=zai hM
       refine zaE (bs:=[.sl .no 1 (x14.map cI),.fn (.func 71) [] []]) (by decide) rfl rfl (zjO ((zeb (Lo:=(fun (_:Unit)=>[]))  (fun _ _=>zh9) (fun _=>List.nodup_nil) (fun _=>zgB) (aF:=(fun (x0:Int) (_:Unit)=>(zdj x0).map fun y=>(y,()))) (fun _ H hH=>(.fn _ _ _ zd3 zd3)) rfl (fun h=>zpl (zjc (zkN h))) hr18).le (.k (.k .nil)))) ?_
       refine Pf (.b r18.1) hb17 ?_
       refine Ni ?_
       exact zal r18.1 (.k (.k (.k (.k (.k .nil))))) ⟨(hS.keep [] rfl).up (by omega),hM⟩
    ·replace hM:=ifF hM hb13
     refine Cf hb13 ?_
     refine zb1 ?_
     refine zaA ?_
     refine zaz ?_
     refine zaL ?_
     exact zal () (.k (.k .nil)) ⟨(hS.keep [] rfl).up (by omega),hM⟩
 ·refine Rg 16 ?_
  refine Of ((Box.cells a0)) zcH ?_
  refine Olg (.agg (Wheel.cells a0.Wheel)) zbk ?_
  obtain ⟨r19,hr19,hM⟩:=zai hM
  refine zaE (bs:=[.agg (Wheel.cells a0.Wheel)]) (by decide) rfl rfl ((zjb hr19).le (.k .nil)) ?_
  refine Oi (.b (r19 != 0)) ?_
  refine Om (.b (r19 != 0)) ?_
  rcases bft (r19 != 0) with hb20 | hb20
  ·replace hM:=ifT hM hb20
   refine On (want:=false) hb20 ?_
   refine On (want:=false) hb20 ?_
   refine On (want:=false) hb20 ?_
   refine On (want:=false) hb20 ?_
   refine Pt (.b true) hb20 ?_
   refine Om (.b true) ?_
   refine Og ?_
   refine Og ?_
   refine Og ?_
   refine Og ?_
   refine zcW (v:=.b true) (e:=true) (by decide) rfl rfl rfl ?_
   refine Ni ?_
   exact zal true (.k (.k .nil)) ⟨(hS.keep [] rfl).up (by omega),hM⟩
  ·replace hM:=ifF hM hb20
   refine Oy (want:=false) hb20 ?_
   refine Of ((Box.cells a0)) zhF ?_
   refine Oy (want:=false) hb20 ?_
   refine Olp (.i a0.Plays) zah zar ?_
   refine Oy (want:=false) hb20 ?_
   obtain ⟨r21,hr21,hM⟩:=zai hM
   refine zaE (bs:=[.i a0.Plays,.i 0,.i 9999]) (by decide) rfl rfl ((zek hr21).le (.k (.k (.k .nil)))) ?_
   refine Oy (want:=false) hb20 ?_
   refine zd4 (e:=r21) (by decide) rfl ?_
   refine Pf (.b (!r21)) hb20 ?_
   refine Om (.b (!r21)) ?_
   rcases bft (!r21) with hb22 | hb22
   ·replace hM:=ifT hM hb22
    refine On (want:=false) hb22 ?_
    refine On (want:=false) hb22 ?_
    refine On (want:=false) hb22 ?_
    refine On (want:=false) hb22 ?_
    refine Pt (.b true) hb22 ?_
    refine Ni ?_
    exact zal true (.k (.k .nil)) ⟨(hS.keep [] rfl).up (by omega),hM⟩
   ·replace hM:=ifF hM hb22
    refine Oy (want:=false) hb22 ?_
    refine Of ((Box.cells a0)) zkZ ?_
    refine Oy (want:=false) hb22 ?_
    refine Olp (.i a0.Skips) zah zar ?_
    refine Oy (want:=false) hb22 ?_
    obtain ⟨r23,hr23,hM⟩:=zai hM
    refine zaE (bs:=[.i a0.Skips,.i 0,.i 9]) (by decide) rfl rfl ((zek hr23).le (.k (.k (.k .nil)))) ?_
    refine Oy (want:=false) hb22 ?_
    refine zd4 (e:=r23) (by decide) rfl ?_
    refine Pf (.b (!r23)) hb22 ?_
    refine Ni ?_
    exact zal (!r23) (.k (.k .nil)) ⟨(hS.keep [] rfl).up (by omega),hM⟩
theorem zfi {n:Nat} {a0:Box} {r:(Option Box_)×Int} (hM:zdM n a0=some r):zaH Try.prog 60 [.agg (Box.cells a0)] (.tup [pA Box_.cells r.1,.i r.2]):=by
 refine zak mixed Try.func60 rfl (by decide) Try.ntmps60 (by simp) ?pure fun H0 g hf=>?_
 case pure=>exact .tup _ (zab (zow (fun x=>(zab (.v _) (zab (.sl _ _ (zav (fun x=>(zab (.v _) zaF)))) (zab (.sl _ _ (zav (fun x=>(zab (.v _) zaF)))) (zab (.sl _ _ (zav (fun x=>(zab (.v _) zaF)))) (zab (.sl _ _ (zav (fun x=>(zab (.v _) zaF)))) (zab (.sl _ _ (zav (fun x=>(zab (.v _) zaF)))) (zab (.v _) (zab (.v _) zaF))))))))) _) (zab (.v _) zaF))
 rw [zag]
 change wpA _ _ _ _ (Fr.of [(0,.agg (Box.cells a0))]) H0 g
 have hS:=St.start hf
 refine Sq ?_
 refine Rg 3 ?_
 refine zb4 (v:=.agg (Box.cells a0)) (cs:=(Box.cells a0)) hS (by decide) rfl rfl (by omega) fun H hS=>?_
 refine Oa (pA Box_.cells (none:Option Box_)) ?_
 refine Oa (.i 0) ?_
 refine Ni ?_
 refine zaX (L':=[]) 0 1 hS rfl rfl rfl fun H hS=>?_
 refine Ws ?_
 refine Sq ?_
 refine Sq ?_
 refine Rg 3 ?_
 refine Olg (.agg (Box.cells a0)) zcj ?_
 obtain ⟨r1,hr1,hM⟩:=zai hM
 refine zaE (bs:=[.agg (Box.cells a0)]) (by decide) rfl rfl ((zk7 hr1).le (.k .nil)) ?_
 refine Oa (.i r1) ?_
 refine Ni ?_
 refine Ws ?_
 refine Sq ?_
 refine Rg 2 ?_
 refine Om (.i r1) ?_
 refine Oi (.b (r1 != 0)) ?_
 refine Ni ?_
 refine Ws ?_
 rcases bft (r1 != 0) with hb2 | hb2
 ·replace hM:=ifT hM hb2
  refine Ct hb2 ?_
  refine Sq ?_
  refine Rg 3 ?_
  refine Om (.i r1) ?_
  refine Oa (pA Box_.cells (none:Option Box_)) ?_
  refine Oa (.i r1) ?_
  refine Ni ?_
  refine Ws ?_
  refine zaR ?_
  refine zam ?_
  refine zaZ (x:=.tup [pA Box_.cells (none:Option Box_),.i r1]) (f:=fun r=>.tup [pA Box_.cells r.1,.i r.2]) (.inr rfl) ?_ (.refl _) (Option.some.inj hM) hS
  exact (zcl (zae (x:=pA Box_.cells (none:Option Box_)) rfl) (zae (x:=.i r1) rfl))
 ·replace hM:=ifF hM hb2
  refine Cf hb2 ?_
  refine zaD ?_
  refine Ws ?_
  refine Sq ?_
  refine Rg 5 ?_
  refine Olg (.agg (Box.cells a0)) zcj ?_
  refine zbx (cs:=(Box.cells a0)) (by decide) zqF ztD rfl ?_
  refine zb4 (v:=.agg (Box.cells a0)) (cs:=(Box.cells a0)) hS (by decide) rfl rfl (by omega) fun H hS=>?_
  refine Oa (.ptr (g+3+3+2+2) 0) ?_
  refine Oa (.i 0) ?_
  refine Ni ?_
  refine zaX (L':=[]) 0 2 hS rfl rfl rfl fun H hS=>?_
  refine Ws ?_
  refine zaR ?_
  refine zaZ (x:=.tup [.ep (Box.cells a0),.i 0]) (f:=fun r=>.tup [pA Box_.cells r.1,.i r.2]) (.inr rfl) ?_ (.tupL (.k (.k .nil))) (Option.some.inj hM) hS
  exact (zcl (zae (x:=.ep (Box.cells a0)) rfl) (zae (x:=.i 0) rfl))
theorem zoH:zfB Try.prog 155=some (zad zaN):=by kernel_rfl
theorem zoI (x:PointT_):Le (.agg (PointT_.cells x)) (.v (zad x)):=zyp [x.Stand.Place,x.Stand.Credit,x.in_.c0,x.in_.c1,x.in_.c2,x.in_.c3,x.bought]
theorem zuR {κ ν:Type} (kv:κ->Value) (cv:ν->Value) (m:List (κ×ν)):(mpw kv cv m).length=m.length:=List.length_map _
theorem zuS {κ ν:Type} {kv:κ->Value} {cv:ν->Value} {m:List (κ×ν)} {e:Nat} {p:Value×Value} (h:(mpw kv cv m)[e]?=some p):∃x,m[e]?=some x/\p=(kv x.1,cv x.2):=by
 unfold mpw at h
 rw [List.getElem?_map] at h
 obtain ⟨x,hx,rfl⟩:=Option.map_eq_some_iff.1 h
 exact ⟨x,hx,rfl⟩
theorem zie {M:List (PointT_×Step_)} {al:Bag_} (hM:ziJ M=true) {j:Nat}:zqB Try.prog 98 [.mp j,.agg (Bag_.cells al)] [(j,.obj none (zaf (mpw zad zao M)))] (fun g v M'=>∃(l:List PointT_) (jn:Nat),l.Perm (M.map (·.1))/\g<=jn/\v=.mp jn/\M'=[(jn,.obj none (zaf (mpw kvI zad (l.foldl (za8 al) [])))),(j,.obj none (zaf (mpw zad zao M)))]):=by
 refine zl0 mixed Try.func98 rfl (by decide) Try.ntmps98 (by simp) (fun g=>⟨.mp (max g (j+1)),_,⟨M.map (·.1),max g (j+1),.refl _,by omega,rfl,rfl⟩,by simp [ids];omega,fun i hi=>by simp [ids] at hi ⊢;omega⟩) fun H0 g hf hp=>?_
 have hall:∀x,x∈M->okI x.1.bought=true:=fun x hx=>List.all_eq_true.1 (Bool.and_eq_true_iff.1 hM).1 x hx
 rw [zag]
 change wpA _ _ _ _ (Fr.of [(0,.mp j),(1,.agg (Bag_.cells al))]) H0 g
 have hS:=St.startH hf (by simp [ids]) hp
 have hjg:j<g:=(hS.has _ (List.mem_singleton.2 rfl)).2.1
 generalize hOe:(fun i=>i<g/\i∉ids [(j,.obj none (zaf (mpw zad zao M)))])=O at hS
 refine Sq ?_
 refine Rg 2 ?_
 refine zb4 (v:=.agg (Bag_.cells al)) (cs:=(Bag_.cells al)) hS (by decide) rfl rfl (by omega) fun H hS=>?_
 refine Oa (.v (.map none)) ?_
 refine Ni ?_
 refine Ws ?_
 refine Sq ?_
 refine Rg 2 ?_
 refine zlZ (kv:=kvI) (cv:=zad) hS (by decide) ziY (by omega) fun H hS=>?_
 refine Oa (.mp (g+2+0)) ?_
 refine Ni ?_
 refine Ws ?_
 refine Sq ?_
 refine Sq ?_
 refine Rg 2 ?_
 refine Om (.mp j) ?_
 refine zuK (m:=mpw zad zao M) 2 hS (by decide) rfl rfl zf9 (by omega) fun a H hS=>?_
 refine Ni ?_
 refine Ws ?_
 refine zaK ?_
 refine zct (V:=List Nat) (fun v=>[(3,.ptr (g+0) 0),(5,.mp (g+2+0)),(11,.it (g+2+2+1) j a)]) (fun v k H' g'=>St O H0 [(g+2+2+1,.obj none (zlF a (mpw zad zao M).length v.toArray)),(g+2+0,.obj none (zaf (mpw kvI zad ((v.map fun e=>(M.getD e (zaN,za7)).1).foldl (za8 al) [])))),(g+0,.cells (Bag_.cells al)),(j,.obj none (zaf (mpw zad zao M)))] H' g'/\g+2+2+2<=g'/\SeenOk M.length v/\k=M.length-v.length) (n:=M.length) [] (.k (.k (.k .nil))) ⟨hS,Nat.le_refl _,SeenOk.nil _,rfl⟩ ?_
 rintro q k H g2 ⟨hS,hg2,hq,hk⟩
 change wpA _ _ _ _ (Fr.of [(3,.ptr (g+0) 0),(5,.mp (g+2+0)),(11,.it (g+2+2+1) j a)]) _ _
 generalize hE:((q.map fun e=>(M.getD e (zaN,za7)).1).foldl (za8 al) [])=E at hS
 have hEok:∀y,okI y=true->mok okI E y=true:=by
  rw [←hE]
  exact ztI hall
 refine Sq ?_
 refine Rg 2 ?_
 refine zwh 0 3 hS (by decide) rfl rfl rfl ?_ ?_
 ·intro hall2
  rw [zuR] at hall2
  refine Ox (.b false) ?_
  refine Ni ?_
  refine Ws ?_
  refine Sq ?_
  refine zg6 (e:=false) rfl rfl ?_
  refine zb1 ?_
  refine zaA ?_
  refine zaz ?_
  refine zaL ?_
  refine Ws ?_
  refine Sq ?_
  refine Rg 2 ?_
  refine Om (.mp (g+2+0)) ?_
  refine Oa (.mp (g+2+0)) ?_
  refine Ni ?_
  refine Ws ?_
  refine zaR ?_
  have hlp:(q.map fun e=>(M.getD e (zaN,za7)).1).Perm (M.map (·.1)):=by
   have h1:=(hq.perm hall2).map (fun e=>(M.getD e (zaN,za7)).1)
   have h2:(List.range M.length).map (fun e=>(M.getD e (zaN,za7)).1)=((List.range M.length).map fun e=>M.getD e (zaN,za7)).map (·.1):=by rw [List.map_map];rfl
   rw [h2,zmv] at h1
   exact h1
  have hS2:=hS.keep (L':=[(g+2+0,.obj none (zaf (mpw kvI zad E))),(j,.obj none (zaf (mpw zad zao M)))]) [false,true,false,true] rfl
  subst hE
  refine ⟨.inr rfl,.mp (g+2+0),_,_,⟨_,g+2+0,hlp,by omega,rfl,rfl⟩,⟨_,zax (zae (x:=.mp (g+2+0)) rfl),.refl _⟩,fun H hH=>.mp _ none _ (hH _ (List.mem_cons_self ..)),?_,fun i hi=>(hS.old i (hOe▸hi)).2,fun p hp=>(hS2.has p hp).2.2,hS.fr,by omega,hS2.nd,fun i hi=>?_,fun p hp=>?_⟩
  ·intro p cs hp e
   simp only [List.mem_cons,List.not_mem_nil,or_false] at hp
   rcases hp with rfl | rfl<;>cases e
  ·simp only [ids,List.map_cons,List.map_nil,List.mem_cons,List.not_mem_nil,or_false] at hi ⊢
   omega
  ·obtain rfl:=List.mem_singleton.1 hp
   exact ⟨_,hS2.get (n:=1) rfl,rfl,fun hn=>absurd (by simp [ids]) hn⟩
 ·intro e p H hp hs hS
  obtain ⟨x,hx,rfl⟩:=zuS hp
  have hlt:=(List.getElem?_eq_some_iff.1 hx).1
  have hxb:=hall x (List.mem_of_getElem? hx)
  replace hS:St O H0 [(g+2+2+1,.obj none (zlF a (mpw zad zao M).length (q.toArray.push e))),(g+2+0,.obj none (zaf (mpw kvI zad E))),(g+0,.cells (Bag_.cells al)),(j,.obj none (zaf (mpw zad zao M)))] H g2:=hS
  refine Ox (.b true) ?_
  refine Ni ?_
  refine Ws ?_
  refine Sq ?_
  refine zkH (e:=true) rfl rfl ?_
  refine zaD ?_
  refine Ws ?_
  refine zaK ?_
  refine Sq ?_
  refine Rg 4 ?_
  refine zuL (p:=(zad x.1,zao x.2)) 0 3 hS (by decide) rfl rfl rfl hp ?_
  refine zqO (v:=.v (zad x.1)) (v':=.agg (PointT_.cells x.1)) (by decide) rfl rfl (zoI x.1) ?_
  refine za3 hS (by decide) zeA (by omega) fun H hS=>?_
  refine zaJ (v:=.agg (PointT_.cells x.1)) (ns:=(PointT_.cells x.1)) (L':=[(g2+2+2,.cells (PointT_.cells x.1)),(g+2+2+1,.obj none (zlF a (mpw zad zao M).length (q.toArray.push e))),(g+2+0,.obj none (zaf (mpw kvI zad E))),(g+0,.cells (Bag_.cells al)),(j,.obj none (zaf (mpw zad zao M)))]) 0 hS rfl rfl .no rfl rfl ziZ nlb rfl fun H hS=>?_
  refine Ni ?_
  refine Ws ?_
  refine Sq ?_
  refine Rg 10 ?_
  refine Om (.mp (g+2+0)) ?_
  refine zaw (by decide) zhY rfl ?_
  refine zaV (v:=.i x.1.bought) 0 hS (by decide) rfl rfl .no (po zah zar) ?_
  refine zkU (kv:=kvI) (ok:=okI) (cv:=zad) (z:=zaN) (M:=E) (k:=x.1.bought) (u:=(zg0 zaN E x.1.bought)) (v':=.agg [.i (zg0 zaN E x.1.bought).Stand.Place,.i (zg0 zaN E x.1.bought).Stand.Credit,.i (zg0 zaN E x.1.bought).in_.c0,.i (zg0 zaN E x.1.bought).in_.c1,.i (zg0 zaN E x.1.bought).in_.c2,.i (zg0 zaN E x.1.bought).in_.c3,.i (zg0 zaN E x.1.bought).bought]) 2 zuQ hS (by decide) rfl rfl rfl ziY zoH (by unfold zgI;rw [if_pos (hEok _ hxb)]) (zoI _) ?_
  generalize hO2:(zg0 zaN E x.1.bought)=o
  refine Om (.tup [.agg (PointT_.cells o),.b (zbv E x.1.bought)]) ?_
  refine Ox (.agg (PointT_.cells o)) ?_
  refine Ox (.b (zbv E x.1.bought)) ?_
  refine za3 hS (by decide) zeA (by omega) fun H hS=>?_
  refine zaJ (v:=.agg (PointT_.cells o)) (ns:=(PointT_.cells o)) (L':=[(g2+2+4+7,.cells (PointT_.cells o)),(g2+2+2,.cells (PointT_.cells x.1)),(g+2+2+1,.obj none (zlF a (mpw zad zao M).length (q.toArray.push e))),(g+2+0,.obj none (zaf (mpw kvI zad E))),(g+0,.cells (Bag_.cells al)),(j,.obj none (zaf (mpw zad zao M)))]) 0 hS rfl rfl .no rfl rfl ziZ nlb rfl fun H hS=>?_
  refine Oa (.b (zbv E x.1.bought)) ?_
  refine Ni ?_
  refine Ws ?_
  refine za1 (J:=Bool) (fun b=>[(3,.ptr (g+0) 0),(5,.mp (g+2+0)),(6,.ptr (g2+2+2) 0),(11,.it (g+2+2+1) j a),(57,.b b)]) (fun b H' g'=>St O H0 [(g2+2+4+7,.cells (PointT_.cells o)),(g2+2+2,.cells (PointT_.cells x.1)),(g+2+2+1,.obj none (zlF a (mpw zad zao M).length (q.toArray.push e))),(g+2+0,.obj none (zaf (mpw kvI zad E))),(g+0,.cells (Bag_.cells al)),(j,.obj none (zaf (mpw zad zao M)))] H' g'/\g+2+2+2<=g'/\b=zkM al E x.1) ?_ ?_
  rotate_left
  ·have hD:∀b,b=(zlx x.1.in_ al&&(!zbv E x.1.bought || zeY x.1 o))->b=zkM al E x.1:=fun b h=>by rw [h,←hO2];rfl
   refine Rg 35 ?_
   refine zaw (by decide) ze3 rfl ?_
   refine zaV (v:=.agg (Bag_.cells x.1.in_)) 1 hS (by decide) rfl rfl .no (pg zdQ) ?_
   refine zaV (v:=.agg (Bag_.cells al)) 4 hS (by decide) rfl rfl .no (pg zdQ) ?_
   refine zAh (cs:=(Bag_.cells x.1.in_)) (ds:=(Bag_.cells al)) (e:=zlx x.1.in_ al) (by decide) rfl rfl zqG rfl ?_
   refine Om (.b (zlx x.1.in_ al)) ?_
   rcases bft (zlx x.1.in_ al) with h1 | h1
   rotate_left
   ·refine On (want:=true) h1 ?_
    refine On (want:=true) h1 ?_
    refine On (want:=true) h1 ?_
    refine zaG (j:=7) (want:=false) (by decide) rfl ?_
    refine zaG (j:=7) (want:=false) (by decide) rfl ?_
    refine zaG (j:=7) (want:=false) (by decide) rfl ?_
    refine zaG (j:=7) (want:=false) (by decide) rfl ?_
    refine zaG (j:=7) (want:=false) (by decide) rfl ?_
    refine zaG (j:=7) (want:=false) (by decide) rfl ?_
    refine zaG (j:=7) (want:=false) (by decide) rfl ?_
    refine On (want:=true) h1 ?_
    refine On (want:=true) h1 ?_
    refine zaG (j:=16) (want:=false) (by decide) rfl ?_
    refine zaG (j:=16) (want:=false) (by decide) rfl ?_
    refine zaG (j:=16) (want:=false) (by decide) rfl ?_
    refine zaG (j:=16) (want:=false) (by decide) rfl ?_
    refine zaG (j:=16) (want:=false) (by decide) rfl ?_
    refine zaG (j:=16) (want:=false) (by decide) rfl ?_
    refine zaG (j:=16) (want:=false) (by decide) rfl ?_
    refine zaG (j:=16) (want:=false) (by decide) rfl ?_
    refine zaG (j:=24) (want:=true) (by decide) rfl ?_
    refine zaG (j:=24) (want:=true) (by decide) rfl ?_
    refine zaG (j:=24) (want:=true) (by decide) rfl ?_
    refine zaG (j:=24) (want:=true) (by decide) rfl ?_
    refine zaG (j:=24) (want:=true) (by decide) rfl ?_
    refine zaG (j:=24) (want:=true) (by decide) rfl ?_
    refine zaG (j:=24) (want:=true) (by decide) rfl ?_
    refine zaG (j:=16) (want:=false) (by decide) rfl ?_
    refine On (want:=true) h1 ?_
    refine Pf (.b false) h1 ?_
    refine Ni ?_
    exact zal false (.k (.k (.k (.k (.k .nil))))) ⟨hS.up (by omega),by omega,hD _ (by simp [zeY,h1])⟩
   refine Oy (want:=true) h1 ?_
   refine Om (.b (zbv E x.1.bought)) ?_
   refine Oy (want:=true) h1 ?_
   refine zd4 (by decide) rfl ?_
   refine Oy (want:=true) h1 ?_
   refine Om (.b (!zbv E x.1.bought)) ?_
   rcases bft (!zbv E x.1.bought) with h2 | h2
   ·refine On (want:=false) h2 ?_
    refine On (want:=false) h2 ?_
    refine On (want:=false) h2 ?_
    refine On (want:=false) h2 ?_
    refine On (want:=false) h2 ?_
    refine On (want:=false) h2 ?_
    refine On (want:=false) h2 ?_
    refine Oy (want:=true) h1 ?_
    refine Pt (.b true) h2 ?_
    refine Oy (want:=true) h1 ?_
    refine Om (.b true) ?_
    refine Og ?_
    refine Og ?_
    refine Og ?_
    refine Og ?_
    refine Og ?_
    refine Og ?_
    refine Og ?_
    refine Og ?_
    refine zaG (j:=24) (want:=true) (by decide) rfl ?_
    refine zaG (j:=24) (want:=true) (by decide) rfl ?_
    refine zaG (j:=24) (want:=true) (by decide) rfl ?_
    refine zaG (j:=24) (want:=true) (by decide) rfl ?_
    refine zaG (j:=24) (want:=true) (by decide) rfl ?_
    refine zaG (j:=24) (want:=true) (by decide) rfl ?_
    refine zaG (j:=24) (want:=true) (by decide) rfl ?_
    refine Og ?_
    refine Oy (want:=true) h1 ?_
    refine zcW (v:=.b true) (e:=true) (by decide) rfl rfl rfl ?_
    refine Pt (.b true) h1 ?_
    refine Ni ?_
    exact zal true (.k (.k (.k (.k (.k .nil))))) ⟨hS.up (by omega),by omega,hD _ (by simp [zeY,h1,h2])⟩
   refine Oy (want:=false) h2 ?_
   refine zaw (by decide) zcu rfl ?_
   refine Oy (want:=false) h2 ?_
   refine zaw (by decide) zdr rfl ?_
   refine Oy (want:=false) h2 ?_
   refine zaV (v:=.i x.1.Stand.Place) 1 hS (by decide) rfl rfl .no (po zah zar) ?_
   refine Oy (want:=false) h2 ?_
   refine zaw (by decide) zcu rfl ?_
   refine Oy (want:=false) h2 ?_
   refine zaw (by decide) zdr rfl ?_
   refine Oy (want:=false) h2 ?_
   refine zaV (v:=.i o.Stand.Place) 0 hS (by decide) rfl rfl .no (po zah zar) ?_
   refine Oy (want:=false) h2 ?_
   refine Oi (.b (decide (x.1.Stand.Place<o.Stand.Place))) ?_
   refine Oy (want:=true) h1 ?_
   refine Pf (.b (decide (x.1.Stand.Place<o.Stand.Place))) h2 ?_
   refine Oy (want:=true) h1 ?_
   refine Om (.b (decide (x.1.Stand.Place<o.Stand.Place))) ?_
   rcases bft (decide (x.1.Stand.Place<o.Stand.Place)) with h3 | h3
   ·refine On (want:=false) h3 ?_
    refine On (want:=false) h3 ?_
    refine On (want:=false) h3 ?_
    refine On (want:=false) h3 ?_
    refine On (want:=false) h3 ?_
    refine On (want:=false) h3 ?_
    refine On (want:=false) h3 ?_
    refine On (want:=false) h3 ?_
    refine zaG (j:=24) (want:=true) (by decide) rfl ?_
    refine zaG (j:=24) (want:=true) (by decide) rfl ?_
    refine zaG (j:=24) (want:=true) (by decide) rfl ?_
    refine zaG (j:=24) (want:=true) (by decide) rfl ?_
    refine zaG (j:=24) (want:=true) (by decide) rfl ?_
    refine zaG (j:=24) (want:=true) (by decide) rfl ?_
    refine zaG (j:=24) (want:=true) (by decide) rfl ?_
    refine On (want:=false) h3 ?_
    refine Oy (want:=true) h1 ?_
    refine Pt (.b true) h3 ?_
    refine Pt (.b true) h1 ?_
    refine Ni ?_
    exact zal true (.k (.k (.k (.k (.k .nil))))) ⟨hS.up (by omega),by omega,hD _ (by simp [zeY,h1,h2,of_decide_eq_true h3])⟩
   refine Oy (want:=false) h3 ?_
   refine zaw (by decide) zcu rfl ?_
   refine Oy (want:=false) h3 ?_
   refine zaw (by decide) zdr rfl ?_
   refine Oy (want:=false) h3 ?_
   refine zaV (v:=.i x.1.Stand.Place) 1 hS (by decide) rfl rfl .no (po zah zar) ?_
   refine Oy (want:=false) h3 ?_
   refine zaw (by decide) zcu rfl ?_
   refine Oy (want:=false) h3 ?_
   refine zaw (by decide) zdr rfl ?_
   refine Oy (want:=false) h3 ?_
   refine zaV (v:=.i o.Stand.Place) 0 hS (by decide) rfl rfl .no (po zah zar) ?_
   refine Oy (want:=false) h3 ?_
   refine Oi (.b (x.1.Stand.Place==o.Stand.Place)) ?_
   refine Oy (want:=false) h3 ?_
   refine Om (.b (x.1.Stand.Place==o.Stand.Place)) ?_
   rcases bft (x.1.Stand.Place==o.Stand.Place) with h4 | h4
   ·refine Oy (want:=true) h4 ?_
    refine zaw (by decide) zcu rfl ?_
    refine Oy (want:=true) h4 ?_
    refine zaw (by decide) zbV rfl ?_
    refine Oy (want:=true) h4 ?_
    refine zaV (v:=.i x.1.Stand.Credit) 1 hS (by decide) rfl rfl .no (po zah zar) ?_
    refine Oy (want:=true) h4 ?_
    refine zaw (by decide) zcu rfl ?_
    refine Oy (want:=true) h4 ?_
    refine zaw (by decide) zbV rfl ?_
    refine Oy (want:=true) h4 ?_
    refine zaV (v:=.i o.Stand.Credit) 0 hS (by decide) rfl rfl .no (po zah zar) ?_
    refine Oy (want:=true) h4 ?_
    refine Oi (.b (decide (x.1.Stand.Credit<o.Stand.Credit))) ?_
    refine Oy (want:=false) h3 ?_
    refine Pt (.b (decide (x.1.Stand.Credit<o.Stand.Credit))) h4 ?_
    refine Oy (want:=true) h1 ?_
    refine Pf (.b (decide (x.1.Stand.Credit<o.Stand.Credit))) h3 ?_
    refine Pt (.b (decide (x.1.Stand.Credit<o.Stand.Credit))) h1 ?_
    refine Ni ?_
    exact zal (decide (x.1.Stand.Credit<o.Stand.Credit)) (.k (.k (.k (.k (.k .nil))))) ⟨hS.up (by omega),by omega,hD _ (by unfold zeY;rw [h1,h2,h3,h4];simp)⟩
   refine On (want:=true) h4 ?_
   refine On (want:=true) h4 ?_
   refine On (want:=true) h4 ?_
   refine On (want:=true) h4 ?_
   refine On (want:=true) h4 ?_
   refine On (want:=true) h4 ?_
   refine On (want:=true) h4 ?_
   refine Oy (want:=false) h3 ?_
   refine Pf (.b false) h4 ?_
   refine Oy (want:=true) h1 ?_
   refine Pf (.b false) h3 ?_
   refine Pt (.b false) h1 ?_
   refine Ni ?_
   exact zal false (.k (.k (.k (.k (.k .nil))))) ⟨hS.up (by omega),by omega,hD _ (by unfold zeY;rw [h1,h2,h3,h4];simp)⟩
  rintro b H g3 ⟨hS,hg3,hb⟩
  change wpA _ _ _ _ (Fr.of [(3,.ptr (g+0) 0),(5,.mp (g+2+0)),(6,.ptr (g2+2+2) 0),(11,.it (g+2+2+1) j a),(57,.b b)]) _ _
  have hq':=hq.push hlt hs
  have hle:=hq'.le
  rw [List.length_append,List.length_singleton] at hle
  have hx2:(M.getD e (zaN,za7)).1=x.1:=by simp [List.getD_eq_getElem?_getD,hx]
  rcases bft b with hbb | hbb
  ·refine Ct hbb ?_
   refine Rg 5 ?_
   refine Om (.mp (g+2+0)) ?_
   refine zaw (by decide) zhY rfl ?_
   refine zaV (v:=.i x.1.bought) 1 hS (by decide) rfl rfl .no (po zah zar) ?_
   refine zaV (v:=.agg (PointT_.cells x.1)) 1 hS (by decide) rfl rfl .no (pg zfu) ?_
   refine zjP (kv:=kvI) (ok:=okI) (cv:=zad) (z0:=zaN) (M:=E) (k:=x.1.bought) (v:=x.1) (M':=zgh E x.1.bought x.1) (L':=[(g2+2+4+7,.cells (PointT_.cells o)),(g2+2+2,.cells (PointT_.cells x.1)),(g+2+2+1,.obj none (zlF a (mpw zad zao M).length (q.toArray.push e))),(g+2+0,.obj none (zaf (mpw kvI zad (zgh E x.1.bought x.1)))),(g+0,.cells (Bag_.cells al)),(j,.obj none (zaf (mpw zad zao M)))]) 3 zuQ (.inl rfl) hS rfl rfl rfl rfl ziY zoH (by unfold zhA;rw [if_pos (hEok _ hxb)]) rfl fun H hS=>?_
   refine Ni ?_
   have hg4:g+2+2+2<=g3+5:=by omega
   have hEE:(((q++[e]).map fun e=>(M.getD e (zaN,za7)).1).foldl (za8 al) [])=zgh E x.1.bought x.1:=by rw [List.map_append,List.foldl_append,hE];simp only [List.map_cons,List.map_nil,List.foldl_cons,List.foldl_nil,hx2,za8];rw [←hb,hbb];simp
   refine zat ?_
   refine zbq (q++[e]) (m:=M.length-(q++[e]).length) (by rw [List.length_append,List.length_singleton];omega) (.k (.k (.k .nil))) ⟨?_,hg4,hq',rfl⟩
   rw [hEE]
   have hS:=hS.keep (L':=[(g+2+2+1,.obj none (zlF a (mpw zad zao M).length (q.toArray.push e))),(g+2+0,.obj none (zaf (mpw kvI zad (zgh E x.1.bought x.1)))),(g+0,.cells (Bag_.cells al)),(j,.obj none (zaf (mpw zad zao M)))]) [false,false,true,true,true,true] rfl
   rw [List.push_toArray] at hS
   exact hS.up (by omega)
  ·refine Cf hbb ?_
   refine zaD ?_
   have hg4:g+2+2+2<=g3:=by omega
   have hEE:(((q++[e]).map fun e=>(M.getD e (zaN,za7)).1).foldl (za8 al) [])=E:=by rw [List.map_append,List.foldl_append,hE];simp only [List.map_cons,List.map_nil,List.foldl_cons,List.foldl_nil,hx2,za8];rw [←hb,hbb];simp
   refine zat ?_
   refine zbq (q++[e]) (m:=M.length-(q++[e]).length) (by rw [List.length_append,List.length_singleton];omega) (.k (.k (.k .nil))) ⟨?_,hg4,hq',rfl⟩
   rw [hEE]
   have hS:=hS.keep (L':=[(g+2+2+1,.obj none (zlF a (mpw zad zao M).length (q.toArray.push e))),(g+2+0,.obj none (zaf (mpw kvI zad E))),(g+0,.cells (Bag_.cells al)),(j,.obj none (zaf (mpw zad zao M)))]) [false,false,true,true,true,true] rfl
   rw [List.push_toArray] at hS
   exact hS.up (by omega)
theorem zgt {n:Nat} {a0:Bag_} {r:Int} (hM:zdl n a0=some r):zaH Try.prog 130 [.agg (Bag_.cells a0)] (.i r):=by
 refine zak mixed Try.func130 rfl (by decide) Try.ntmps130 (by simp) ?pure fun H0 g hf=>?_
 case pure=>exact .v _
 rw [zag]
 change wpA _ _ _ _ (Fr.of [(0,.agg (Bag_.cells a0))]) H0 g
 have hS:=St.start hf
 refine Sq ?_
 refine Rg 2 ?_
 refine zb4 (v:=.agg (Bag_.cells a0)) (cs:=(Bag_.cells a0)) hS (by decide) rfl rfl (by omega) fun H hS=>?_
 refine Oa (.i 0) ?_
 refine Ni ?_
 refine zaX (L':=[]) 0 1 hS rfl rfl rfl fun H hS=>?_
 refine Ws ?_
 refine Sq ?_
 refine Rg 1 ?_
 refine Oa (.i 0) ?_
 refine Ni ?_
 refine Ws ?_
 refine za1 (J:=Int) (fun j=>[(3,.i j)]) (fun j H' g'=>St (·<g) H0 [] H' g'/\zdc j=some r) ?_ ?_
 ·rintro v1 H g1 ⟨hS,hM⟩
  change wpA _ _ _ _ (Fr.of [(3,.i v1)]) _ _
  replace hS:St (·<g) H0 [] H g1:=hS
  replace hM:zdc v1=some r:=hM
  refine Sq ?_
  refine Rg 2 ?_
  refine Om (.i v1) ?_
  refine Oa (.i v1) ?_
  refine Ni ?_
  refine Ws ?_
  refine zaR ?_
  refine zaZ (x:=.i v1) (f:=fun r=>.i r) (.inr rfl) ?_ (.refl _) (Option.some.inj hM) hS
  exact (zax (zae (x:=.i v1) rfl))
 ·refine Sq ?_
  refine Rg 2 ?_
  refine Olg (.agg (Bag_.cells a0)) zdQ ?_
  refine Om (.i 0) ?_
  refine Ni ?_
  refine Ws ?_
  refine zaK ?_
  refine zct (V:=Int×Int) (fun v=>[(3,.i v.1),(6,.agg (Bag_.cells a0)),(7,.i v.2)]) (fun v m2 H' g'=>St (·<g) H0 [] H' g'/\zbl a0 m2 v.1 v.2=some r) (n:=n) (0,0) (.k (.k (.k .nil))) ⟨(hS.keep [] rfl).up (by omega),hM⟩ ?_
  rintro ⟨v2,v3⟩ m2 H g2 ⟨hS,hM⟩
  obtain _ | m2:=m2
  ·exact nomatch (show none=some _ from hM)
  change wpA _ _ _ _ (Fr.of [(3,.i v2),(6,.agg (Bag_.cells a0)),(7,.i v3)]) _ _
  replace hS:St (·<g) H0 [] H g2:=hS
  replace hM:zcR a0 (zbl a0 m2) v2 v3=some r:=hM
  refine Sq ?_
  refine Rg 1 ?_
  refine Oi (.b (decide (v3<4))) ?_
  refine Ni ?_
  refine Ws ?_
  refine Sq ?_
  rcases bft (decide (v3<4)) with hb4 | hb4
  ·replace hM:=ifT hM hb4
   refine Ct hb4 ?_
   refine zaD ?_
   refine Ws ?_
   refine Sq ?_
   refine zaK ?_
   refine Sq ?_
   refine Rg 2 ?_
   obtain ⟨x5,hx5,hM⟩:=zai hM
   refine zmq (v:=.i x5) (cs:=(Bag_.cells a0)) (z:=v3) (by decide) rfl rfl zse (zfs hx5).1 (zox hx5) (zph (xs:=([a0.c0,a0.c1,a0.c2,a0.c3]:List Int)) zah zar rfl hx5) ?_
   refine Oa (.i x5) ?_
   refine Ni ?_
   refine Ws ?_
   refine Rg 4 ?_
   refine Om (.i v2) ?_
   refine Om (.i x5) ?_
   refine Oi (.i (w64 (v2+x5))) ?_
   refine Oa (.i (w64 (v2+x5))) ?_
   refine Ni ?_
   refine zat ?_
   refine Ws ?_
   refine Rg 2 ?_
   refine Oi (.i (w64 (v3+1))) ?_
   refine Om (.i (w64 (v3+1))) ?_
   refine Ni ?_
   exact zbq (w64 (v2+x5),w64 (v3+1)) (Nat.lt_succ_self _) (.k (.k (.k .nil))) ⟨(hS.keep [] rfl).up (by omega),hM⟩
  ·replace hM:=ifF hM hb4
   refine Cf hb4 ?_
   refine zb1 ?_
   refine zaA ?_
   refine zaz ?_
   refine zaL ?_
   exact zal v2 (.k .nil) ⟨(hS.keep [] rfl).up (by omega),hM⟩
abbrev zmI (al:Bag_) (x:PointT_) (a s xb nx j q:Nat) (pre:List AV) (S:ziK):BL:=[quB PointT_.cells q pre S.2,(a,.cells (Bag_.cells al)),(s,.cells [.mp j]),(xb,.cells (PointT_.cells x)),(nx,.cells [quV 7 q pre S.2]),(j,.obj none (zaf (mpw zad zao S.1)))]
theorem zss {al:Bag_} {x:PointT_} {a s xb nx j q:Nat} {pre:List AV} {S:ziK} (hpre:∀c,c∈pre->Go.AM.Pure c):InB In (zmI al x a s xb nx j q pre S):=fun p cs hp e c hc H hH=>by
 have hq:H q=some (.cells (pre++(S.2.map PointT_.cells).flatten)):=hH (quB PointT_.cells q pre S.2) (by simp)
 have hj:H j=some (.obj none (zaf (mpw zad zao S.1))):=hH (j,_) (by simp)
 simp only [List.mem_cons,List.not_mem_nil,or_false] at hp
 rcases hp with rfl | rfl | rfl | rfl | rfl | rfl
 ·obtain rfl:pre++(S.2.map PointT_.cells).flatten=cs:=by injection e
  rcases List.mem_append.1 hc with hc | hc
  ·exact (hpre c hc).inH
  ·exact (zsn (fun x=>(zab (.v _) (zab (.v _) (zab (.v _) (zab (.v _) (zab (.v _) (zab (.v _) (zab (.v _) zaF)))))))) _ c hc).inH
 ·obtain rfl:(Bag_.cells al)=cs:=by injection e
  exact ((show ∀c,c∈(Bag_.cells al)->Go.AM.Pure c from zab (.v _) (zab (.v _) (zab (.v _) (zab (.v _) zaF)))) c hc).inH
 ·obtain rfl:[AV.mp j]=cs:=by injection e
  obtain rfl:c=AV.mp j:=by simpa using hc
  exact .mp j none _ hj
 ·obtain rfl:(PointT_.cells x)=cs:=by injection e
  exact ((show ∀c,c∈(PointT_.cells x)->Go.AM.Pure c from zab (.v _) (zab (.v _) (zab (.v _) (zab (.v _) (zab (.v _) (zab (.v _) (zab (.v _) zaF))))))) c hc).inH
 ·obtain rfl:[quV 7 q pre S.2]=cs:=by injection e
  obtain rfl:c=quV 7 q pre S.2:=by simpa using hc
  exact .ms _ _ _ _ _ (.inl ⟨_,hq⟩)
 ·cases e
theorem zk8:∀u:Step_,Le (.agg (u.cells)) (.v (zao u)):=fun u=>zyp [u.act,u.from_.Stand.Place,u.from_.Stand.Credit,u.from_.in_.c0,u.from_.in_.c1,u.from_.in_.c2,u.from_.in_.c3,u.from_.bought]
theorem zhG:zfB Try.prog 187=some (zao za7):=by kernel_rfl
theorem zfx {n:Nat} {al:Bag_} {x:PointT_} {act:Int} {y:PointT_} {S S':ziK} (hM:zel n al x act y S=some S') {a s xb nx j q:Nat} {pre:List AV} (hpre:∀c,c∈pre->Go.AM.Pure c) (hnd:(ids (zmI al x a s xb nx j q pre S)).Nodup):zqB Try.prog 129 [.i act,.agg (PointT_.cells y),.ptr a 0,.ptr s 0,.ptr xb 0,.ptr nx 0] (zmI al x a s xb nx j q pre S) (fun g v M'=>∃q' pre',v=.tup []/\M'=zmI al x a s xb nx j q' pre' S'/\(q'=q\/g<=q')/\(pre'=pre\/pre'=[])):=by
 refine zl0 mixed Try.func129 rfl (by decide) Try.ntmps129 (by simp) (fun g=>⟨.tup [],zmI al x a s xb nx j q pre S',⟨q,pre,rfl,rfl,.inl rfl,.inl rfl⟩,hnd,fun i hi=>.inl hi⟩) fun H0 g hf hp=>?_
 rw [zag]
 change wpA _ _ _ _ (Fr.of [(0,.i act),(1,.agg (PointT_.cells y)),(2,.ptr a 0),(3,.ptr s 0),(4,.ptr xb 0),(5,.ptr nx 0)]) H0 g
 have hS:=St.startH hf hnd hp
 have hO:(fun i=>i<g/\i∉ids (zmI al x a s xb nx j q pre S))=(fun i=>i<g/\i∉ids (zmI al x a s xb nx j q pre S)):=rfl
 generalize hOe:(fun i=>i<g/\i∉ids (zmI al x a s xb nx j q pre S))=O at hS
 replace hS:St O H0 [quB PointT_.cells q pre S.2,(a,.cells (Bag_.cells al)),(s,.cells [.mp j]),(xb,.cells (PointT_.cells x)),(nx,.cells [quV 7 q pre S.2]),(j,.obj none (zaf (mpw zad zao S.1)))] H0 g:=hS
 unfold zel at hM
 refine Sq ?_
 refine Rg 1 ?_
 refine zb4 (v:=.agg (PointT_.cells y)) (cs:=(PointT_.cells y)) hS (by decide) rfl rfl (by omega) fun H hS=>?_
 refine Ni ?_
 refine Ws ?_
 refine Sq ?_
 have hS0:=hS
 refine zck (n:=13) rfl (by kernel_rfl) ?_
 refine zaw (by decide) zcu rfl ?_
 refine zaw (by decide) zbV rfl ?_
 refine zaV (v:=.i y.Stand.Credit) 0 hS (by decide) rfl rfl (.st hS0 0 rfl (by omega)) (po zah zar) ?_
 refine zaV (v:=.agg (Bag_.cells al)) 2 hS (by decide) rfl rfl (.st hS0 2 rfl (by omega)) (pg zdQ) ?_
 obtain ⟨r1,hr1,hM⟩:=zai hM
 refine zaE (bs:=[.agg (Bag_.cells al)]) (by decide) rfl rfl ((zgt hr1).le (.k .nil)) ?_
 refine zaw (by decide) ze3 rfl ?_
 refine zaV (v:=.agg (Bag_.cells y.in_)) 0 hS (by decide) rfl rfl (.st hS0 0 rfl (by omega)) (pg zdQ) ?_
 obtain ⟨r2,hr2,hM⟩:=zai hM
 refine zaE (bs:=[.agg (Bag_.cells y.in_)]) (by decide) rfl rfl ((zgt hr2).le (.k .nil)) ?_
 refine Oi (.i (w64 (r1-r2))) ?_
 refine zv5 (v:=.i (min y.Stand.Credit (w64 (r1-r2)))) (by decide) rfl ?_
 refine zaw (by decide) zcu rfl ?_
 refine zaw (by decide) zbV rfl ?_
 refine zaJ (v:=.i (min y.Stand.Credit (w64 (r1-r2)))) (ns:=[.i (min y.Stand.Credit (w64 (r1-r2)))]) (L':=[(g+0,.cells [.i y.Stand.Place,.i (min y.Stand.Credit (w64 (r1-r2))),.i y.in_.c0,.i y.in_.c1,.i y.in_.c2,.i y.in_.c3,.i y.bought]),quB PointT_.cells q pre S.2,(a,.cells (Bag_.cells al)),(s,.cells [.mp j]),(xb,.cells (PointT_.cells x)),(nx,.cells [quV 7 q pre S.2]),(j,.obj none (zaf (mpw zad zao S.1)))]) 0 hS rfl rfl (.st hS0 0 rfl (by omega)) rfl rfl zen nlb rfl fun H hS=>?_
 refine Ni ?_
 refine Ws ?_
 refine Sq ?_
 refine Rg 9 ?_
 refine zaV (v:=.mp j) 3 hS (by decide) rfl rfl .no (po zkX zmB) ?_
 refine zaV (v:=.agg [.i y.Stand.Place,.i (min y.Stand.Credit (w64 (r1-r2))),.i y.in_.c0,.i y.in_.c1,.i y.in_.c2,.i y.in_.c3,.i y.bought]) 0 hS (by decide) rfl rfl .no (pg zfu) ?_
 obtain ⟨u,hu,hM⟩:=zai hM
 refine zkU (kv:=zad) (ok:=zbG) (cv:=zao) (z:=za7) (M:=S.1) (k:=(zd7 y (w64 (r1-r2)))) (u:=u) (v':=.agg (Step_.cells u)) 6 zk6 hS (by decide) rfl rfl rfl zf9 zhG hu (zk8 u) ?_
 refine Om (.tup [.agg (Step_.cells u),.b (zbv S.1 (zd7 y (w64 (r1-r2))))]) ?_
 refine Ox (.agg (Step_.cells u)) ?_
 refine Ox (.b (zbv S.1 (zd7 y (w64 (r1-r2))))) ?_
 refine za3 hS (by decide) zgM (by omega) fun H hS=>?_
 refine zaJ (v:=.agg (Step_.cells u)) (ns:=(Step_.cells u)) (L':=[(g+1+13+6,.cells (Step_.cells u)),(g+0,.cells [.i y.Stand.Place,.i (min y.Stand.Credit (w64 (r1-r2))),.i y.in_.c0,.i y.in_.c1,.i y.in_.c2,.i y.in_.c3,.i y.bought]),quB PointT_.cells q pre S.2,(a,.cells (Bag_.cells al)),(s,.cells [.mp j]),(xb,.cells (PointT_.cells x)),(nx,.cells [quV 7 q pre S.2]),(j,.obj none (zaf (mpw zad zao S.1)))]) 0 hS rfl rfl .no rfl rfl zi1 nlb rfl fun H hS=>?_
 refine Oa (.b (zbv S.1 (zd7 y (w64 (r1-r2))))) ?_
 refine Ni ?_
 replace hS:=hS.keep (L':=[(g+0,.cells [.i y.Stand.Place,.i (min y.Stand.Credit (w64 (r1-r2))),.i y.in_.c0,.i y.in_.c1,.i y.in_.c2,.i y.in_.c3,.i y.bought]),quB PointT_.cells q pre S.2,(a,.cells (Bag_.cells al)),(s,.cells [.mp j]),(xb,.cells (PointT_.cells x)),(nx,.cells [quV 7 q pre S.2]),(j,.obj none (zaf (mpw zad zao S.1)))]) [false,true,true,true,true,true,true,true] rfl
 refine Ws ?_
 refine Sq ?_
 refine Rg 2 ?_
 refine Om (.b (zbv S.1 (zd7 y (w64 (r1-r2))))) ?_
 refine zd4 (by decide) rfl ?_
 refine Ni ?_
 refine Ws ?_
 rcases bft (zbv S.1 (zd7 y (w64 (r1-r2)))) with hb | hb
 ·replace hM:=ifT hM hb
  refine zg6 (e:=!zbv S.1 (zd7 y (w64 (r1-r2)))) rfl (by rw [hb];rfl) ?_
  refine zaD ?_
  obtain rfl:=Option.some.inj hM
  refine ⟨.inl rfl,.tup [],zmI al x a s xb nx j q pre S,g+1+13+9+2,⟨q,pre,rfl,rfl,.inl rfl,.inl rfl⟩,⟨_,rfl,.refl _⟩,fun H _=>(show Go.AM.Pure _ from .tup _ zaF).inH,zss hpre,fun i hi=>(hS.old i (hOe▸hi)).2,fun p hp=>((hS.keep (L':=zmI al x a s xb nx j q pre S) [false,true,true,true,true,true,true] rfl).has p hp).2.2,fun i hi=>hS.fr i (by omega),by omega,hnd,fun i hi=>.inl hi,fun p hp=>⟨p.2,((hS.keep (L':=zmI al x a s xb nx j q pre S) [false,true,true,true,true,true,true] rfl).has p hp).2.2,?_,fun hn=>absurd (List.mem_map.2 ⟨p,hp,rfl⟩) hn⟩⟩
  simp only [List.mem_cons,List.not_mem_nil,or_false] at hp
  rcases hp with rfl | rfl | rfl | rfl | rfl | rfl<;>first | trivial | rfl
 ·replace hM:=ifF hM hb
  refine zkH (e:=!zbv S.1 (zd7 y (w64 (r1-r2)))) rfl (by rw [hb];rfl) ?_
  refine Sq ?_
  refine Rg 6 ?_
  refine zaV (v:=.mp j) 3 hS (by decide) rfl rfl .no (po zkX zmB) ?_
  refine zaV (v:=.agg [.i y.Stand.Place,.i (min y.Stand.Credit (w64 (r1-r2))),.i y.in_.c0,.i y.in_.c1,.i y.in_.c2,.i y.in_.c3,.i y.bought]) 0 hS (by decide) rfl rfl .no (pg zfu) ?_
  refine Om (.i act) ?_
  refine zaV (v:=.agg (PointT_.cells x)) 4 hS (by decide) rfl rfl .no (pg zfu) ?_
  refine zbx (cs:=[.i act,.i x.Stand.Place,.i x.Stand.Credit,.i x.in_.c0,.i x.in_.c1,.i x.in_.c2,.i x.in_.c3,.i x.bought]) (by decide) zgM zpx rfl ?_
  obtain ⟨m,hm,hM⟩:=zai hM
  refine zjP (kv:=zad) (ok:=zbG) (cv:=zao) (z0:=za7) (M:=S.1) (k:=(zd7 y (w64 (r1-r2)))) (v:=⟨act,x⟩) (M':=m) (L':=[(g+0,.cells [.i y.Stand.Place,.i (min y.Stand.Credit (w64 (r1-r2))),.i y.in_.c0,.i y.in_.c1,.i y.in_.c2,.i y.in_.c3,.i y.bought]),quB PointT_.cells q pre S.2,(a,.cells (Bag_.cells al)),(s,.cells [.mp j]),(xb,.cells (PointT_.cells x)),(nx,.cells [quV 7 q pre S.2]),(j,.obj none (zaf (mpw zad zao m)))]) 6 zk6 (.inl rfl) hS rfl rfl rfl rfl zf9 zhG hm rfl fun H hS=>?_
  refine Ni ?_
  refine Ws ?_
  have hle:S.2.length+1<=1048576:=by
    by_cases h:S.2.length+1<=1048576
    ·exact h
    ·rw [if_neg h] at hM;cases hM
  rw [if_pos hle] at hM
  obtain rfl:=Option.some.inj hM
  refine Rg 5 ?_
  refine zaV (v:=quV 7 q pre S.2) 5 hS (by decide) rfl rfl .no (po zi2 zkh) ?_
  refine zaV (v:=.agg [.i y.Stand.Place,.i (min y.Stand.Credit (w64 (r1-r2))),.i y.in_.c0,.i y.in_.c1,.i y.in_.c2,.i y.in_.c3,.i y.bought]) 0 hS (by decide) rfl rfl .no (pg zfu) ?_
  refine znn (e:=155) (es:=[[.i y.Stand.Place,.i (min y.Stand.Credit (w64 (r1-r2))),.i y.in_.c0,.i y.in_.c1,.i y.in_.c2,.i y.in_.c3,.i y.bought]]) (by decide) zi3 zpy rfl zmC rfl (by decide) ?_
  replace hS:=hS.toHead (L':=[quB PointT_.cells q pre S.2,(g+0,.cells [.i y.Stand.Place,.i (min y.Stand.Credit (w64 (r1-r2))),.i y.in_.c0,.i y.in_.c1,.i y.in_.c2,.i y.in_.c3,.i y.bought]),(a,.cells (Bag_.cells al)),(s,.cells [.mp j]),(xb,.cells (PointT_.cells x)),(nx,.cells [quV 7 q pre S.2]),(j,.obj none (zaf (mpw zad zao m)))]) 1 nlb rfl
  refine zqN (f:=PointT_.cells) (k:=7) (ys:=[(zd7 y (w64 (r1-r2)))]) hS (by decide) rfl (fun _=>rfl) rfl zi3 zmC (Nat.succ_pos 0) hle (by omega) fun H pre' hpr hS=>?_
  refine zaJ (v:=quV 7 (g+1+13+9+2+6+3) pre' (S.2++[(zd7 y (w64 (r1-r2)))])) (ns:=[quV 7 (g+1+13+9+2+6+3) pre' (S.2++[(zd7 y (w64 (r1-r2)))])]) (L':=[quB PointT_.cells (g+1+13+9+2+6+3) pre' (S.2++[(zd7 y (w64 (r1-r2)))]),(q,.ice),(g+0,.cells [.i y.Stand.Place,.i (min y.Stand.Credit (w64 (r1-r2))),.i y.in_.c0,.i y.in_.c1,.i y.in_.c2,.i y.in_.c3,.i y.bought]),(a,.cells (Bag_.cells al)),(s,.cells [.mp j]),(xb,.cells (PointT_.cells x)),(nx,.cells [quV 7 (g+1+13+9+2+6+3) pre' (S.2++[(zd7 y (w64 (r1-r2)))])]),(j,.obj none (zaf (mpw zad zao m)))]) 6 hS rfl rfl .no rfl rfl zkY nlb rfl fun H hS=>?_
  refine Ni ?_
  have hS2:=hS.keep (L':=zmI al x a s xb nx j (g+1+13+9+2+6+3) pre' (m,S.2++[(zd7 y (w64 (r1-r2)))])) [true,false,false,true,true,true,true,true] rfl
  have hpre2:∀c,c∈pre'->Go.AM.Pure c:=by rcases hpr with rfl | rfl;exact hpre;exact fun c hc=>by simp at hc
  refine ⟨.inl rfl,.tup [],zmI al x a s xb nx j (g+1+13+9+2+6+3) pre' (m,S.2++[(zd7 y (w64 (r1-r2)))]),_,⟨(g+1+13+9+2+6+3),pre',rfl,rfl,.inr (by omega),hpr⟩,⟨_,rfl,.refl _⟩,fun H _=>(show Go.AM.Pure _ from .tup _ zaF).inH,zss hpre2,fun i hi=>(hS.old i (hOe▸hi)).2,fun p hp=>(hS2.has p hp).2.2,hS.fr,by omega,hS2.nd,fun i hi=>?_,fun p hp=>?_⟩
  ·simp only [ids,List.map_cons,List.map_nil,List.mem_cons,List.not_mem_nil,or_false,quB] at hi ⊢
   omega
  ·simp only [List.mem_cons,List.not_mem_nil,or_false] at hp
   rcases hp with rfl | rfl | rfl | rfl | rfl | rfl
   ·exact ⟨.ice,hS.get (n:=1) rfl,trivial,fun _=>rfl⟩
   ·exact ⟨_,hS.get (n:=3) rfl,trivial,fun hn=>absurd (by simp [ids,quB]) hn⟩
   ·exact ⟨_,hS.get (n:=4) rfl,trivial,fun hn=>absurd (by simp [ids,quB]) hn⟩
   ·exact ⟨_,hS.get (n:=5) rfl,trivial,fun hn=>absurd (by simp [ids,quB]) hn⟩
   ·exact ⟨_,hS.get (n:=6) rfl,trivial,fun hn=>absurd (by simp [ids,quB]) hn⟩
   ·exact ⟨_,hS.get (n:=7) rfl,rfl,fun hn=>absurd (by simp [ids,quB]) hn⟩
theorem zhH {S:Type} {Lo:S->BL} (hk:∀s s',zls (Lo s) (Lo s')) (hnd:∀s,(ids (Lo s)).Nodup) (hin:∀s,InB In (Lo s)) {aF:Wheel_->S->Option (Bool×S)} {f0:AV} (hF:∀s H,Has H (Lo s)->In H f0) (h0:cellsOf f0=some [f0]) (hf:∀{x0:Wheel_} {s:S} {r:Bool×S},aF x0 s=some r->zpZ Try.prog f0 [.agg (Wheel.cells x0.Wheel)] (Lo s) (.b r.1) (Lo r.2)) {n:Nat} {a0:Wheel} {st:S} {r:(Wheel_×Int)×S} (hM:zeZ n aF a0 st=some r):zjZ Try.prog 86 [.agg (Wheel.cells a0),f0] (Lo st) (.tup [.agg [.i r.1.1.Wheel.Round,.sl .no 1 (r.1.1.Wheel.Notches.map cI),.sl .no 1 (r.1.1.Wheel.Coins.map cI)],.i r.1.2]) (Lo r.2):=by
 have hnd0:∀s,(ids (Lo s)).Nodup:=fun s=>hnd s
 refine zds mixed Try.func86 rfl (by decide) Try.ntmps86 (by simp) (hk _ _) (hnd st) ?pure ?cells fun H0 g hf_ hp=>?_
 case pure=>exact fun H _=>(show Go.AM.Pure _ from .tup _ (zab (.agg _ (zab (.v _) (zab (.sl _ _ (zav (fun x=>(zab (.v _) zaF)))) (zab (.sl _ _ (zav (fun x=>(zab (.v _) zaF)))) zaF)))) (zab (.v _) zaF))).inH
 case cells=>exact hin _
 rw [zag]
 change wpA _ _ _ _ (Fr.of [(0,.agg (Wheel.cells a0)),(1,f0)]) H0 g
 have hS:=St.startH (L:=([]++Lo st)) hf_ (hnd st) hp
 replace hS:St (fun i=>i<g/\i∉ids (Lo st)) H0 ([]++Lo st) H0 g:=hS
 refine Sq ?_
 refine Rg 3 ?_
 refine zb4 (v:=.agg (Wheel.cells a0)) (cs:=(Wheel.cells a0)) hS (by decide) rfl rfl (by omega) fun H hS=>?_
 refine za3 hS (by decide) zez (by omega) fun H hS=>?_
 refine Oa (.i 0) ?_
 refine Ni ?_
 refine zaX (L':=([(g+1,.cells [.i 0,.sl .nil 0 [],.sl .nil 0 []])]++Lo st)) 1 2 hS rfl rfl rfl fun H hS=>?_
 refine Ws ?_
 refine Sq ?_
 refine Sq ?_
 refine Rg 3 ?_
 refine Olg (.agg (Wheel.cells a0)) zbk ?_
 obtain ⟨r1,hr1,hM⟩:=zai hM
 refine zaE (bs:=[.agg (Wheel.cells a0)]) (by decide) rfl rfl ((zjb hr1).le (.k .nil)) ?_
 refine Oa (.i r1) ?_
 refine Ni ?_
 refine Ws ?_
 refine Sq ?_
 refine Rg 2 ?_
 refine Om (.i r1) ?_
 refine Oi (.b (r1 != 0)) ?_
 refine Ni ?_
 refine Ws ?_
 rcases bft (r1 != 0) with hb2 | hb2
 ·replace hM:=ifT hM hb2
  refine Ct hb2 ?_
  refine Sq ?_
  refine Rg 4 ?_
  refine zbx (cs:=[.i 0,.sl .nil 0 [],.sl .nil 0 []]) (by decide) zez zkf rfl ?_
  refine Om (.i r1) ?_
  refine zaJ (v:=.agg [.i 0,.sl .nil 0 [],.sl .nil 0 []]) (ns:=[.i 0,.sl .nil 0 [],.sl .nil 0 []]) (L':=([(g+1,.cells [.i 0,.sl .nil 0 [],.sl .nil 0 []])]++Lo st)) 0 hS rfl rfl .no rfl rfl zgL nlb rfl fun H hS=>?_
  refine Oa (.i r1) ?_
  refine Ni ?_
  refine Ws ?_
  refine zaR ?_
  refine zam ?_
  refine zfm (x:=.tup [.agg [.i 0,.sl .nil 0 [],.sl .nil 0 []],.i r1]) (f:=fun r=>.tup [.agg [.i r.1.1.Wheel.Round,.sl .no 1 (r.1.1.Wheel.Notches.map cI),.sl .no 1 (r.1.1.Wheel.Coins.map cI)],.i r.1.2]) (fd:=fun r=>(Lo r.2)) (.inr rfl) ?_ (.tupL (.cons (.aggL (.k (.cons (.sl0 .nil 1 0) (.cons (.sl0 .nil 1 0) .nil)))) (.k .nil))) (Option.some.inj hM) hS 1 rfl
  exact (zcl (zcA (x:=.agg [.i 0,.sl .nil 0 [],.sl .nil 0 []]) 0 hS rfl rfl (pg zc6)) (zae (x:=.i r1) rfl))
 ·replace hM:=ifF hM hb2
  refine Cf hb2 ?_
  refine zaD ?_
  refine Ws ?_
  refine Sq ?_
  refine Sq ?_
  refine Rg 5 ?_
  refine Om (f0) ?_
  refine Olg (.agg (Wheel.cells a0)) zbk ?_
  refine zbx (cs:=(Wheel.cells a0)) (by decide) zez zkf rfl ?_
  obtain ⟨r3,hr3,hM⟩:=zai hM
  replace hS:St (fun i=>i<g/\i∉ids (Lo st)) H0 ([(g+1,.cells [.i 0,.sl .nil 0 [],.sl .nil 0 []])]++Lo st) _ _:=hS
  refine zkK (bs:=[.agg (Wheel.cells a0)]) (.inl rfl) hS (by decide) rfl rfl ((hf hr3).le (.k .nil)) (hk _ _).ids (by omega) fun H hS=>?_
  refine zd4 (e:=r3.1) (by decide) rfl ?_
  refine Ni ?_
  refine Ws ?_
  rcases bft (!r3.1) with hb4 | hb4
  ·replace hM:=ifT hM hb4
   refine Ct hb4 ?_
   refine Sq ?_
   refine Rg 3 ?_
   refine zbx (cs:=[.i 0,.sl .nil 0 [],.sl .nil 0 []]) (by decide) zez zkf rfl ?_
   refine zaJ (v:=.agg [.i 0,.sl .nil 0 [],.sl .nil 0 []]) (ns:=[.i 0,.sl .nil 0 [],.sl .nil 0 []]) (L':=([(g+1,.cells [.i 0,.sl .nil 0 [],.sl .nil 0 []])]++Lo r3.2)) 0 hS rfl rfl .no rfl rfl zgL nlb rfl fun H hS=>?_
   refine Oa (.i 1) ?_
   refine Ni ?_
   refine Ws ?_
   refine zaR ?_
   refine zam ?_
   refine zfm (x:=.tup [.agg [.i 0,.sl .nil 0 [],.sl .nil 0 []],.i 1]) (f:=fun r=>.tup [.agg [.i r.1.1.Wheel.Round,.sl .no 1 (r.1.1.Wheel.Notches.map cI),.sl .no 1 (r.1.1.Wheel.Coins.map cI)],.i r.1.2]) (fd:=fun r=>(Lo r.2)) (.inr rfl) ?_ (.tupL (.cons (.aggL (.k (.cons (.sl0 .nil 1 0) (.cons (.sl0 .nil 1 0) .nil)))) (.k .nil))) (Option.some.inj hM) hS 1 rfl
   exact (zcl (zcA (x:=.agg [.i 0,.sl .nil 0 [],.sl .nil 0 []]) 0 hS rfl rfl (pg zc6)) (zae (x:=.i 1) rfl))
  ·replace hM:=ifF hM hb4
   refine Cf hb4 ?_
   refine zaD ?_
   refine Ws ?_
   refine Sq ?_
   refine Rg 4 ?_
   refine Olg (.agg (Wheel.cells a0)) zbk ?_
   refine zbx (cs:=(Wheel.cells a0)) (by decide) zez zkf rfl ?_
   refine zaJ (v:=.agg (Wheel.cells a0)) (ns:=(Wheel.cells a0)) (L':=([(g+1,.cells (Wheel.cells a0))]++Lo r3.2)) 0 hS rfl rfl .no rfl rfl zgL nlb rfl fun H hS=>?_
   refine Oa (.i 0) ?_
   refine Ni ?_
   refine Ws ?_
   refine zaR ?_
   refine zfm (x:=.tup [.agg (Wheel.cells a0),.i 0]) (f:=fun r=>.tup [.agg [.i r.1.1.Wheel.Round,.sl .no 1 (r.1.1.Wheel.Notches.map cI),.sl .no 1 (r.1.1.Wheel.Coins.map cI)],.i r.1.2]) (fd:=fun r=>(Lo r.2)) (.inr rfl) ?_ (.refl _) (Option.some.inj hM) hS 1 rfl
   exact (zcl (zcA (x:=.agg (Wheel.cells a0)) 0 hS rfl rfl (pg zc6)) (zae (x:=.i 0) rfl))
end Go.Proofs.Ytenogpmlhpcibaa
