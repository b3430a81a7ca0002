/-
  The code returns what the functions say (printed by gen.py).
  Conditions: none.
-/
import Derived.Test.YtenogpmlhpcibaaTy
import Derived.Test.YtenogpmlhpcibaaMd
import Derived.Test.YtenogpmlhpcibaaAmOx
import Derived.Test.YtenogpmlhpcibaaSh
import Derived.Test.YtenogpmlhpcibaaKs
import Derived.Test.YtenogpmlhpcibaaEn
set_option linter.all false
namespace Go.Proofs.Ytenogpmlhpcibaa
open Go Go.AM Go.Law
set_option linter.unusedVariables false
set_option maxRecDepth 4000
set_option maxHeartbeats 4000000
abbrev _root_.Go.AM.AV.i (x:Int):Go.AM.AV:=.v (.int .i64 x)
abbrev _root_.Go.AM.AV.b (x:Bool):Go.AM.AV:=.v (.bool x)
theorem _root_.Go.AM.FLe.k {l l0:List (Nat×AV)} {t:Nat} (r:FLe l l0):FLe l ((t,lk l t)::l0):=.cons (.refl _) r
theorem _root_.Go.AM.LeL.k {a:AV} {ps qs:List AV} (r:LeL ps qs):LeL (a::ps) (a::qs):=.cons (.refl _) r
section
open Go.AM
variable {P:Program} {N:Nat} {l:List (Nat×AV)} {H:zab} {g:Nat} {ops:Array Oper} {i d g0:Nat} {r:List Oper} {K:Fr->zab->Nat->Prop} {lim:Option Nat} {ty:TypeId} {pos:String} {after:Array Edge} {Q:Exit->Fr->zab->Nat->Prop} {a b:Code}
theorem _root_.Go.AM.Om {x:Operand} (v:AV) (h:zaR P N lim g0 ops K (i+1) r (Fr.of ((d,v)::l)) H g) (hd:d<N:=by decide) (hx:evL N l x=v:=by rfl):zaR P N lim g0 ops K i (⟨some d,.move x,ty,pos,after,none⟩::r) (Fr.of l) H g:=zvc hd hx h
theorem _root_.Go.AM.Oa {x:Operand} (v:AV) (h:zaR P N lim g0 ops K (i+1) r (Fr.of ((d,v)::l)) H g) (hd:d<N:=by decide) (hx:evL N l x=v:=by rfl):zaR P N lim g0 ops K i (⟨some d,.assign x,ty,pos,after,none⟩::r) (Fr.of l) H g:=zss hd hx h
theorem _root_.Go.AM.Olp {t:TypeId} {x:Operand} {cs:List AV} (v:AV) (h1:zao P t=none) (h2:scalar P t=true) (h:zaR P N lim g0 ops K (i+1) r (Fr.of ((d,v)::l)) H g) (hd:d<N:=by decide) (hx:evL N l x=.ep cs:=by rfl) (hc:cs[0]?=some v:=by rfl):zaR P N lim g0 ops K i (⟨some d,.load t x,ty,pos,after,none⟩::r) (Fr.of l) H g:=zq1 hd hx (ziq h1 h2 hc) h
theorem _root_.Go.AM.Olg {t:TypeId} {x:Operand} {cs:List AV} {k:Nat} (v:AV) (ha:zao P t=some k) (h:zaR P N lim g0 ops K (i+1) r (Fr.of ((d,v)::l)) H g) (hd:d<N:=by decide) (hx:evL N l x=.ep cs:=by rfl) (hk:Nat.ble (0+k) cs.length=true:=by rfl) (hc:AV.agg ((cs.drop 0).take k)=v:=by rfl):zaR P N lim g0 ops K i (⟨some d,.load t x,ty,pos,after,none⟩::r) (Fr.of l) H g:=zq1 hd hx (zoD ha (Nat.le_of_ble_eq_true hk) rfl) (hc▸h)
theorem _root_.Go.AM.Og {op:Op} {j:Nat} {want:Bool} (h:zaR P N lim g0 ops K (i+1) r (Fr.of ((d,.tup [])::l)) H g) (hd:d<N:=by decide) (hg:gd ops N (Fr.of l) j=some (some (!want)):=by rfl):zaR P N lim g0 ops K i (⟨some d,op,ty,pos,after,some (j,want)⟩::r) (Fr.of l) H g:=zbZ hd hg rfl h
theorem _root_.Go.AM.On {op:Op} {j:Nat} {want e:Bool} (he:e=!want) (h:zaR P N lim g0 ops K (i+1) r (Fr.of ((d,.tup [])::l)) H g) (hd:d<N:=by decide) (hg:gd ops N (Fr.of l) j=some (some e):=by rfl):zaR P N lim g0 ops K i (⟨some d,op,ty,pos,after,some (j,want)⟩::r) (Fr.of l) H g:=zbZ hd hg he h
theorem _root_.Go.AM.Oy {op:Op} {j:Nat} {want e:Bool} {dst:Option Tmp} (he:e=want) (h:zaR P N lim g0 ops K i (⟨dst,op,ty,pos,after,none⟩::r) (Fr.of l) H g) (hg:gd ops N (Fr.of l) j=some (some e):=by rfl):zaR P N lim g0 ops K i (⟨dst,op,ty,pos,after,some (j,want)⟩::r) (Fr.of l) H g:=zsr hg he h
theorem _root_.Go.AM.Oi {bo:BinOp} {t t':TypeId} {x y:Operand} {k:IntKind} {m n:Int} (v:AV) (h:zaR P N lim g0 ops K (i+1) r (Fr.of ((d,v)::l)) H g) (hd:d<N:=by decide) (hx:evL N l x=.v (.int k m):=by rfl) (hy:evL N l y=.v (.int k n):=by rfl) (hv:zih bo k m n=some v:=by rfl):zaR P N lim g0 ops K i (⟨some d,.binOp bo t x y t',ty,pos,after,none⟩::r) (Fr.of l) H g:=zmL hd hx hy hv h
theorem _root_.Go.AM.Ox {x:Operand} {n:Nat} {vs:List AV} (v:AV) (h:zaR P N lim g0 ops K (i+1) r (Fr.of ((d,v)::l)) H g) (hd:d<N:=by decide) (hx:evL N l x=.tup vs:=by rfl) (hn:vs[n]?=some v:=by rfl):zaR P N lim g0 ops K i (⟨some d,.extract x n,ty,pos,after,none⟩::r) (Fr.of l) H g:=zq2 hd hx hn h
theorem _root_.Go.AM.Of {s f:Nat} {x:Operand} (cs:List AV) {k:Nat} (hk:zaq P s f=some k) (h:zaR P N lim g0 ops K (i+1) r (Fr.of ((d,.ep (cs.drop k))::l)) H g) (hd:d<N:=by decide) (hx:evL N l x=.ep cs:=by rfl):zaR P N lim g0 ops K i (⟨some d,.fieldAddr s x f,ty,pos,after,none⟩::r) (Fr.of l) H g:=zst hd hk hx h
theorem _root_.Go.AM.Pt {c x y:Operand} (v:AV) {e:Bool} (he:e=true) (h:zaR P N lim g0 ops K (i+1) r (Fr.of ((d,v)::l)) H g) (hd:d<N:=by decide) (hc:evL N l c=.v (.bool e):=by rfl) (hx:evL N l x=v:=by rfl):zaR P N lim g0 ops K i (⟨some d,.pick c x y,ty,pos,after,none⟩::r) (Fr.of l) H g:=zct hd hc he hx h
theorem _root_.Go.AM.Pf {c x y:Operand} (v:AV) {e:Bool} (he:e=false) (h:zaR P N lim g0 ops K (i+1) r (Fr.of ((d,v)::l)) H g) (hd:d<N:=by decide) (hc:evL N l c=.v (.bool e):=by rfl) (hy:evL N l y=v:=by rfl):zaR P N lim g0 ops K i (⟨some d,.pick c x y,ty,pos,after,none⟩::r) (Fr.of l) H g:=zbp hd hc he hy h
theorem _root_.Go.AM.Ct {o:Operand} {e:Bool} (he:e=true) (h:wpA P N a Q (Fr.of l) H g) (hc:evL N l o=.v (.bool e):=by rfl):wpA P N (.cond o a b) Q (Fr.of l) H g:=zkk hc he h
theorem _root_.Go.AM.Cf {o:Operand} {e:Bool} (he:e=false) (h:wpA P N b Q (Fr.of l) H g) (hc:evL N l o=.v (.bool e):=by rfl):wpA P N (.cond o a b) Q (Fr.of l) H g:=zgR hc he h
theorem _root_.Go.AM.Rg {id:Nat} {os:List Oper} (n:Nat) (h:zaR P N none g os.toArray (Q .normal) 0 os (Fr.of l) H (g+n)) (hn:os.length=n:=by rfl):wpA P N (.region id os.toArray false) Q (Fr.of l) H g:=zso hn h
theorem _root_.Go.AM.Ws (h:wpA P N b Q (Fr.of l) H g):Exit.thenA (fun fr' H' g'=>∃fr0 H0 g0,zjq fr' H' g' fr0 H0 g0/\wpA P N b Q fr0 H0 g0) Q .normal (Fr.of l) H g:=⟨_,H,g,.le (fun _=>.refl _) H g,h⟩
theorem _root_.Go.AM.Sq (h:wpA P N a (Exit.thenA (fun fr' H' g'=>∃fr0 H0 g0,zjq fr' H' g' fr0 H0 g0/\wpA P N b Q fr0 H0 g0) Q) (Fr.of l) H g):wpA P N (.seq a b) Q (Fr.of l) H g:=ztF h
theorem _root_.Go.AM.Ni (h:K (Fr.of l) H g):zaR P N lim g0 ops K i [] (Fr.of l) H g:=ztH h
theorem _root_.Go.AM.pg {t:TypeId} {cs ds:List AV} {off k:Nat} (h:zao P t=some k) (hl:off+k<=cs.length:=by exact Nat.le_of_ble_eq_true rfl) (hc:(cs.drop off).take k=ds:=by rfl):zeT P t cs off=some (.agg ds):=zoD h hl hc
theorem _root_.Go.AM.po {t:TypeId} {cs:List AV} {off:Nat} {v:AV} (h:zao P t=none) (hs:scalar P t=true) (hc:cs[off]?=some v:=by rfl):zeT P t cs off=some v:=ziq h hs hc
theorem _root_.Go.AM.bft (b:Bool):b=true\/b=false:=Bool.eq_false_or_eq_true b
theorem _root_.Go.AM.nlb {a b:Nat} (h:Nat.ble a b=true:=by rfl):a<=b:=Nat.le_of_ble_eq_true h
end
theorem zkC:KeysAre Try.prog 155 zbE zad where
 keyed:=Go.Maps.Keyed.of_law (deep_law_laid (show laidOutB Try.prog=true by kernel_rfl) (m:=6) (by omega) (of_decide_eq_true (by kernel_rfl)) (by kernel_rfl) (by kernel_rfl))
 inj:=fun a b h=>by
  obtain ⟨⟨a1,a2⟩,⟨a3,a4,a5,a6⟩,a7⟩:=a
  obtain ⟨⟨b1,b2⟩,⟨b3,b4,b5,b6⟩,b7⟩:=b
  have h:=ztT h
  simp only [List.cons.injEq,and_true] at h
  obtain ⟨rfl,rfl,rfl,rfl,rfl,rfl,rfl⟩:=h
  rfl
 key:=fun x h=>znY (by kernel_rfl) (by kernel_rfl) (by kernel_rfl) (show List.length _=_ by kernel_rfl) h
theorem zAt:Try.prog.underlying 3=some (.int .i64):=by kernel_rfl
theorem zt2:KeysAre Try.prog 3 okI kvI:=⟨Go.Maps.int_keyed zAt,fun a b h=>by injection h,fun a h=>⟨_,Go.Maps.keyOf_int_mk zAt h⟩⟩
theorem zht {n:Nat} {a0:List Int} {a1:List Int} {r:(List Int)} (hM:zgw n a0 a1=some r):zaF Try.prog 66 [.sl .no 1 (a0.map cI),.sl .no 1 (a1.map cI)] (.sl .no 1 (r.map cI)):=by
 refine zak mixed Try.func66 rfl (by decide) Try.ntmps66 (by simp) ?pure fun H0 g hf=>?_
 case pure=>exact .sl _ _ (zaE (fun x=>(zac (.v _) zaK)))
 rw [zag]
 change wpA _ _ _ _ (Fr.of [(0,.sl .no 1 (a0.map cI)),(1,.sl .no 1 (a1.map cI))]) H0 g
 have hS:=St.start hf
 refine Sq ?_
 refine Rg 1 ?_
 refine Oa (.sl .nil 0 []) ?_
 refine Ni ?_
 refine Ws ?_
 refine Sq ?_
 refine Rg 1 ?_
 refine Oa (.sl .nil 0 []) ?_
 refine Ni ?_
 refine ztJ [(0,.sl .no 1 (a0.map cI)),(1,.sl .no 1 (a1.map cI)),(5,.sl (.id (g+1+1)) 1 (([]:List Int).map cI))] 5 1 3 hS (by omega) (by decide) rfl (.k (.k (.k .nil))) fun H hS=>?_
 refine zaS (J:=(List Int)) (fun j=>[(5,.sl (.id (g+1+1)) 1 (j.map cI))]) (fun j H' g'=>St (·<g) H0 [(g+1+1,.row 3 j.length)] H' g'/\zfy j=some r) ?_ ?_
 ·rintro v1 H g1 ⟨hS,hM⟩
  change wpA _ _ _ _ (Fr.of [(5,.sl (.id (g+1+1)) 1 (v1.map cI))]) _ _
  replace hS:St (·<g) H0 [(g+1+1,.row 3 v1.length)] H g1:=hS
  replace hM:zfy v1=some r:=hM
  refine Sq ?_
  refine Rg 2 ?_
  refine Om (.sl (.id (g+1+1)) 1 (v1.map cI)) ?_
  refine Oa (.sl (.id (g+1+1)) 1 (v1.map cI)) ?_
  refine Ni ?_
  refine Ws ?_
  refine zaQ ?_
  refine zaU (x:=.sl (.id (g+1+1)) 1 (v1.map cI)) (f:=fun r=>.sl .no 1 (r.map cI)) (.inr rfl) ?_ (.sl _ _ _) (Option.some.inj hM) hS
  exact (zas (zae (x:=.sl (.id (g+1+1)) 1 (v1.map cI)) rfl))
 ·refine Sq ?_
  refine Rg 1 ?_
  refine Oa (.i 0) ?_
  refine Ni ?_
  refine Ws ?_
  refine zay ?_
  refine zbU (V:=(List Int)×Int) (fun v=>[(0,.sl .no 1 (a0.map cI)),(1,.sl .no 1 (a1.map cI)),(5,.sl (.id (g+1+1)) 1 (v.1.map cI)),(6,.i v.2)]) (fun v m2 H' g'=>St (·<g) H0 [(g+1+1,.row 3 v.1.length)] H' g'/\zda a0 a1 m2 v.1 v.2=some r) (n:=n) (([]:List Int),0) (.k (.k (.k (.k .nil)))) ⟨(hS.keep [true] rfl).up (by omega),hM⟩ ?_
  rintro ⟨v2,v3⟩ m2 H g2 ⟨hS,hM⟩
  obtain _ | m2:=m2
  ·exact nomatch (show none=some _ from hM)
  change wpA _ _ _ _ (Fr.of [(0,.sl .no 1 (a0.map cI)),(1,.sl .no 1 (a1.map cI)),(5,.sl (.id (g+1+1)) 1 (v2.map cI)),(6,.i v3)]) _ _
  replace hS:St (·<g) H0 [(g+1+1,.row 3 v2.length)] H g2:=hS
  replace hM:zeF a0 a1 (zda a0 a1 m2) v2 v3=some r:=hM
  refine Sq ?_
  refine Sq ?_
  refine Rg 4 ?_
  refine Om (.i v3) ?_
  refine Om (.sl .no 1 (a0.map cI)) ?_
  refine zbu (n:=a0.length) (by decide) rfl (List.length_map _) zax ?_
  refine Oi (.b (decide (v3<(a0.length:Int)))) ?_
  refine Ni ?_
  refine Ws ?_
  rcases bft (decide (v3<(a0.length:Int))) with hb4 | hb4
  ·replace hM:=ifT hM hb4
   refine Ct hb4 ?_
   refine zaz ?_
   refine Ws ?_
   refine Sq ?_
   refine zay ?_
   have hS0:=hS
   refine zcD (n:=13) rfl (by kernel_rfl) ?_
   refine Om (.sl (.id (g+1+1)) 1 (v2.map cI)) ?_
   refine Om (.sl .no 1 (a0.map cI)) ?_
   refine Om (.i v3) ?_
   obtain ⟨x5,hx5,hM⟩:=zaj hM
   refine zaW (xs:=a0) (f:=cI) (z:=v3) (u:=x5) (by decide) rfl rfl zaG hx5 ?_
   refine Olp (.i x5) zaf zav ?_
   refine Om (.sl .no 1 (a1.map cI)) ?_
   refine Om (.i v3) ?_
   obtain ⟨x6,hx6,hM⟩:=zaj hM
   refine zaW (xs:=a1) (f:=cI) (z:=v3) (u:=x6) (by decide) rfl rfl zaG hx6 ?_
   refine Olp (.i x6) zaf zav ?_
   refine Oi (.i (w64 (x5+x6))) ?_
   refine zbD (es:=[[.i (w64 (x5+x6))]]) hS (by decide) zaG zdj rfl zcY rfl (by decide) (by omega) fun H hS=>?_
   obtain ⟨l7,hl7,hM⟩:=zaj hM
   refine zhH (xs:=v2) (ys:=([w64 (x5+x6)]:List Int)) (zs:=l7) (f:=cI) (L':=[(g2+4+10,.row 3 1),(g+1+1,.row 3 l7.length)]) 1 hS (by decide) rfl rfl rfl rfl (.st hS0 0 rfl (by omega)) zaG zdj zcY hl7 rfl fun H hS=>?_
   refine Oa (.sl (.id (g+1+1)) 1 (l7.map cI)) ?_
   refine Ni ?_
   refine zal ?_
   replace hS:=hS.keep (L':=[(g+1+1,.row 3 l7.length)]) [false,true] rfl
   refine Ws ?_
   refine Rg 3 ?_
   refine Om (.i v3) ?_
   refine Oi (.i (w64 (v3+1))) ?_
   refine Oa (.i (w64 (v3+1))) ?_
   refine Ni ?_
   exact za6 (l7,w64 (v3+1)) (Nat.lt_succ_self _) (.k (.k (.k (.k .nil)))) ⟨(hS.keep [true] rfl).up (by omega),hM⟩
  ·replace hM:=ifF hM hb4
   refine Cf hb4 ?_
   refine zbM ?_
   refine zat ?_
   refine zap ?_
   refine zaD ?_
   exact zah v2 (.k .nil) ⟨(hS.keep [true] rfl).up (by omega),hM⟩
theorem zia {n:Nat} {a0:Box} {r:(List Int)} (hM:zgx n a0=some r):zaF Try.prog 29 [.agg (Box.cells a0)] (.sl .no 1 (r.map cI)):=by
 refine zak mixed Try.func29 rfl (by decide) Try.ntmps29 (by simp) ?pure fun H0 g hf=>?_
 case pure=>exact .sl _ _ (zaE (fun x=>(zac (.v _) zaK)))
 rw [zag]
 change wpA _ _ _ _ (Fr.of [(0,.agg (Box.cells a0))]) H0 g
 have hS:=St.start hf
 refine Sq ?_
 refine Rg 2 ?_
 refine zcC (v:=.agg (Box.cells a0)) (cs:=(Box.cells a0)) hS (by decide) rfl rfl (by omega) fun H hS=>?_
 refine Oa (.sl .nil 0 []) ?_
 refine Ni ?_
 refine zbk (L':=[]) 0 1 hS rfl rfl rfl fun H hS=>?_
 refine Ws ?_
 refine Sq ?_
 refine Rg 6 ?_
 refine Of ((Box.cells a0)) zcN ?_
 refine Olp (.sl .no 1 (a0.Found.map cI)) zaA zaO ?_
 refine Of ((Box.cells a0)) zfo ?_
 refine Olp (.sl .no 1 (a0.Slugs.map cI)) zaA zaO ?_
 obtain ⟨r1,hr1,hM⟩:=zaj hM
 refine zau (bs:=[.sl .no 1 (a0.Found.map cI),.sl .no 1 (a0.Slugs.map cI)]) (by decide) rfl rfl ((zht hr1).le (.k (.k .nil))) ?_
 refine Oa (.sl .no 1 (r1.map cI)) ?_
 refine Ni ?_
 refine zff [(2,.sl .no 1 (r1.map cI))] (.k .nil) ?_
 refine zaQ ?_
 refine zaU (x:=.sl .no 1 (r1.map cI)) (f:=fun r=>.sl .no 1 (r.map cI)) (.inr rfl) ?_ (.refl _) (Option.some.inj hM) hS
 exact (zas (zae (x:=.sl .no 1 (r1.map cI)) rfl))
theorem zec {a0:Int} {a1:Int} {a2:Int} {r:Bool} (hM:zc4 a0 a1 a2=some r):zaF Try.prog 75 [.i a0,.i a1,.i a2] (.b r):=by
 refine zak mixed Try.func75 rfl (by decide) Try.ntmps75 (by simp) ?pure fun H0 g hf=>?_
 case pure=>exact .v _
 rw [zag]
 change wpA _ _ _ _ (Fr.of [(0,.i a0),(1,.i a1),(2,.i a2)]) H0 g
 have hS:=St.start hf
 refine Sq ?_
 refine Rg 1 ?_
 refine Oa (.b false) ?_
 refine Ni ?_
 refine Ws ?_
 refine zaS (J:=Bool) (fun j=>[(6,.b j)]) (fun j H' g'=>St (·<g) H0 [] H' g'/\zdK j=some r) ?_ ?_
 ·rintro v1 H g1 ⟨hS,hM⟩
  change wpA _ _ _ _ (Fr.of [(6,.b v1)]) _ _
  replace hS:St (·<g) H0 [] H g1:=hS
  replace hM:zdK v1=some r:=hM
  refine zaQ ?_
  refine zaU (x:=.b v1) (f:=fun r=>.b r) (.inr rfl) ?_ (.refl _) (Option.some.inj hM) hS
  exact (zas (zae (x:=.b v1) rfl))
 ·refine Rg 9 ?_
  refine Om (.i a0) ?_
  refine Om (.i a1) ?_
  refine Oi (.b (decide (a0≥a1))) ?_
  refine Om (.b (decide (a0≥a1))) ?_
  rcases bft (decide (a0≥a1)) with hb2 | hb2
  ·replace hM:=ifT hM hb2
   refine Oy (want:=true) hb2 ?_
   refine Om (.i a0) ?_
   refine Oy (want:=true) hb2 ?_
   refine Om (.i a2) ?_
   refine Oy (want:=true) hb2 ?_
   refine Oi (.b (decide (a0<=a2))) ?_
   refine Pt (.b (decide (a0<=a2))) hb2 ?_
   refine Oa (.b (decide (a0<=a2))) ?_
   refine Ni ?_
   exact zah (decide (a0<=a2)) (.k .nil) ⟨(hS.keep [] rfl).up (by omega),hM⟩
  ·replace hM:=ifF hM hb2
   refine On (want:=true) hb2 ?_
   refine On (want:=true) hb2 ?_
   refine On (want:=true) hb2 ?_
   refine Pf (.b false) hb2 ?_
   refine Oa (.b false) ?_
   refine Ni ?_
   exact zah false (.k .nil) ⟨(hS.keep [] rfl).up (by omega),hM⟩
theorem zhY {n:Nat} {a0:List Int} {a1:Int} {a2:Int} {r:Bool} (hM:zf9 n a0 a1 a2=some r):zaF Try.prog 76 [.sl .no 1 (a0.map cI),.i a1,.i a2] (.b r):=by
 refine zak mixed Try.func76 rfl (by decide) Try.ntmps76 (by simp) ?pure fun H0 g hf=>?_
 case pure=>exact .v _
 rw [zag]
 change wpA _ _ _ _ (Fr.of [(0,.sl .no 1 (a0.map cI)),(1,.i a1),(2,.i a2)]) H0 g
 have hS:=St.start hf
 refine Sq ?_
 refine Rg 1 ?_
 refine Oa (.b false) ?_
 refine Ni ?_
 refine Ws ?_
 refine zaS (J:=Unit) (fun j=>[]) (fun j H' g'=>St (·<g) H0 [] H' g'/\zeG=some r) ?_ ?_
 ·rintro _ H g1 ⟨hS,hM⟩
  change wpA _ _ _ _ (Fr.of []) _ _
  replace hS:St (·<g) H0 [] H g1:=hS
  replace hM:zeG=some r:=hM
  refine Sq ?_
  refine Rg 1 ?_
  refine Oa (.b true) ?_
  refine Ni ?_
  refine Ws ?_
  refine zaQ ?_
  refine zaU (x:=.b true) (f:=fun r=>.b r) (.inr rfl) ?_ (.refl _) (Option.some.inj hM) hS
  exact (zas (zae (x:=.b true) rfl))
 ·refine Sq ?_
  refine Rg 1 ?_
  refine Oa (.i 0) ?_
  refine Ni ?_
  refine Ws ?_
  refine zay ?_
  refine zbU (V:=Int) (fun v=>[(0,.sl .no 1 (a0.map cI)),(1,.i a1),(2,.i a2),(7,.i v)]) (fun v m2 H' g'=>St (·<g) H0 [] H' g'/\zbO a0 a1 a2 m2 v=some r) (n:=n) 0 (.k (.k (.k (.k .nil)))) ⟨(hS.keep [] rfl).up (by omega),hM⟩ ?_
  rintro v1 m2 H g2 ⟨hS,hM⟩
  obtain _ | m2:=m2
  ·exact nomatch (show none=some _ from hM)
  change wpA _ _ _ _ (Fr.of [(0,.sl .no 1 (a0.map cI)),(1,.i a1),(2,.i a2),(7,.i v1)]) _ _
  replace hS:St (·<g) H0 [] H g2:=hS
  replace hM:zdW a0 a1 a2 (zbO a0 a1 a2 m2) v1=some r:=hM
  refine Sq ?_
  refine Sq ?_
  refine Rg 4 ?_
  refine Om (.i v1) ?_
  refine Om (.sl .no 1 (a0.map cI)) ?_
  refine zbu (n:=a0.length) (by decide) rfl (List.length_map _) zax ?_
  refine Oi (.b (decide (v1<(a0.length:Int)))) ?_
  refine Ni ?_
  refine Ws ?_
  rcases bft (decide (v1<(a0.length:Int))) with hb2 | hb2
  ·replace hM:=ifT hM hb2
   refine Ct hb2 ?_
   refine zaz ?_
   refine Ws ?_
   refine Sq ?_
   refine zay ?_
   refine zaS (J:=Bool) (fun j=>[(0,.sl .no 1 (a0.map cI)),(1,.i a1),(2,.i a2),(7,.i v1),(37,.b j)]) (fun j H' g'=>St (·<g) H0 [] H' g'/\zca (zbO a0 a1 a2 m2) v1 j=some r) ?_ ?_
   ·rintro v3 H g3 ⟨hS,hM⟩
    change wpA _ _ _ _ (Fr.of [(0,.sl .no 1 (a0.map cI)),(1,.i a1),(2,.i a2),(7,.i v1),(37,.b v3)]) _ _
    replace hS:St (·<g) H0 [] H g3:=hS
    replace hM:zca (zbO a0 a1 a2 m2) v1 v3=some r:=hM
    rcases bft v3 with hb4 | hb4
    ·replace hM:=ifT hM hb4
     refine Ct hb4 ?_
     refine Sq ?_
     refine Rg 1 ?_
     refine Oa (.b false) ?_
     refine Ni ?_
     refine Ws ?_
     refine zaQ ?_
     refine za1 ?_
     refine zan ?_
     refine zcj ?_
     refine za1 ?_
     refine zcF ?_
     refine zaU (x:=.b false) (f:=fun r=>.b r) (.inr rfl) ?_ (.refl _) (Option.some.inj hM) hS
     exact (zas (zae (x:=.b false) rfl))
    ·replace hM:=ifF hM hb4
     refine Cf hb4 ?_
     refine zaz ?_
     refine zal ?_
     refine Ws ?_
     refine Rg 3 ?_
     refine Om (.i v1) ?_
     refine Oi (.i (w64 (v1+1))) ?_
     refine Oa (.i (w64 (v1+1))) ?_
     refine Ni ?_
     exact za6 (w64 (v1+1)) (Nat.lt_succ_self _) (.k (.k (.k (.k .nil)))) ⟨(hS.keep [] rfl).up (by omega),hM⟩
   ·have hS0:=hS
    refine zcD (n:=24) rfl (by kernel_rfl) ?_
    refine Om (.sl .no 1 (a0.map cI)) ?_
    refine Om (.i v1) ?_
    obtain ⟨x5,hx5,hM⟩:=zaj hM
    refine zaW (xs:=a0) (f:=cI) (z:=v1) (u:=x5) (by decide) rfl rfl zaG hx5 ?_
    refine Olp (.i x5) zaf zav ?_
    refine Om (.i a1) ?_
    refine Om (.i a2) ?_
    obtain ⟨r6,hr6,hM⟩:=zaj hM
    refine zau (bs:=[.i x5,.i a1,.i a2]) (by decide) rfl rfl ((zec hr6).le (.k (.k (.k .nil)))) ?_
    refine zdD (e:=r6) (by decide) rfl ?_
    refine Om (.b (!r6)) ?_
    rcases bft (!r6) with hb7 | hb7
    ·replace hM:=ifT hM hb7
     refine On (want:=false) hb7 ?_
     refine On (want:=false) hb7 ?_
     refine On (want:=false) hb7 ?_
     refine zaw (j:=11) (by decide) rfl ?_
     refine zaw (j:=11) (by decide) rfl ?_
     refine zaw (j:=11) (by decide) rfl ?_
     refine zaw (j:=11) (by decide) rfl ?_
     refine zaw (j:=11) (by decide) rfl ?_
     refine zaw (j:=11) (by decide) rfl ?_
     refine zaw (j:=11) (by decide) rfl ?_
     refine zaw (j:=11) (by decide) rfl ?_
     refine zaw (j:=11) (by decide) rfl ?_
     refine zaw (j:=11) (by decide) rfl ?_
     refine On (want:=false) hb7 ?_
     refine Pt (.b true) hb7 ?_
     refine Ni ?_
     exact zah true (.k (.k (.k (.k (.k .nil))))) ⟨(hS.keep [] rfl).up (by omega),hM⟩
    ·replace hM:=ifF hM hb7
     refine Oy (want:=false) hb7 ?_
     refine Om (.i v1) ?_
     refine Oy (want:=false) hb7 ?_
     refine Oi (.b (decide (v1>0))) ?_
     refine Oy (want:=false) hb7 ?_
     refine Om (.b (decide (v1>0))) ?_
     rcases bft (decide (v1>0)) with hb8 | hb8
     ·replace hM:=ifT hM hb8
      refine Oy (want:=true) hb8 ?_
      refine Om (.sl .no 1 (a0.map cI)) ?_
      refine Oy (want:=true) hb8 ?_
      refine Om (.i v1) ?_
      refine Oy (want:=true) hb8 ?_
      obtain ⟨x9,hx9,hM⟩:=zaj hM
      refine zaW (xs:=a0) (f:=cI) (z:=v1) (u:=x9) (by decide) rfl rfl zaG hx9 ?_
      refine Oy (want:=true) hb8 ?_
      refine Olp (.i x9) zaf zav ?_
      refine Oy (want:=true) hb8 ?_
      refine Om (.sl .no 1 (a0.map cI)) ?_
      refine Oy (want:=true) hb8 ?_
      refine Om (.i v1) ?_
      refine Oy (want:=true) hb8 ?_
      refine Oi (.i (w64 (v1-1))) ?_
      refine Oy (want:=true) hb8 ?_
      obtain ⟨x10,hx10,hM⟩:=zaj hM
      refine zaW (xs:=a0) (f:=cI) (z:=(w64 (v1-1))) (u:=x10) (by decide) rfl rfl zaG hx10 ?_
      refine Oy (want:=true) hb8 ?_
      refine Olp (.i x10) zaf zav ?_
      refine Oy (want:=true) hb8 ?_
      refine Oi (.b (decide (x9<=x10))) ?_
      refine Oy (want:=false) hb7 ?_
      refine Pt (.b (decide (x9<=x10))) hb8 ?_
      refine Pf (.b (decide (x9<=x10))) hb7 ?_
      refine Ni ?_
      exact zah (decide (x9<=x10)) (.k (.k (.k (.k (.k .nil))))) ⟨(hS.keep [] rfl).up (by omega),hM⟩
     ·replace hM:=ifF hM hb8
      refine On (want:=true) hb8 ?_
      refine On (want:=true) hb8 ?_
      refine On (want:=true) hb8 ?_
      refine On (want:=true) hb8 ?_
      refine On (want:=true) hb8 ?_
      refine On (want:=true) hb8 ?_
      refine On (want:=true) hb8 ?_
      refine On (want:=true) hb8 ?_
      refine On (want:=true) hb8 ?_
      refine On (want:=true) hb8 ?_
      refine Oy (want:=false) hb7 ?_
      refine Pf (.b false) hb8 ?_
      refine Pf (.b false) hb7 ?_
      refine Ni ?_
      exact zah false (.k (.k (.k (.k (.k .nil))))) ⟨(hS.keep [] rfl).up (by omega),hM⟩
  ·replace hM:=ifF hM hb2
   refine Cf hb2 ?_
   refine zbM ?_
   refine zat ?_
   refine zap ?_
   refine zaD ?_
   exact zah () .nil ⟨(hS.keep [] rfl).up (by omega),hM⟩
theorem zmb {n:Nat} {a0:Wheel} {r:Int} (hM:zgS n a0=some r):zaF Try.prog 44 [.agg (Wheel.cells a0)] (.i r):=by
 refine zak mixed Try.func44 rfl (by decide) Try.ntmps44 (by simp) ?pure fun H0 g hf=>?_
 case pure=>exact .v _
 rw [zag]
 change wpA _ _ _ _ (Fr.of [(0,.agg (Wheel.cells a0))]) H0 g
 have hS:=St.start hf
 refine Sq ?_
 refine Rg 2 ?_
 refine zcC (v:=.agg (Wheel.cells a0)) (cs:=(Wheel.cells a0)) hS (by decide) rfl rfl (by omega) fun H hS=>?_
 refine Oa (.i 0) ?_
 refine Ni ?_
 refine zbk (L':=[]) 0 1 hS rfl rfl rfl fun H hS=>?_
 refine Ws ?_
 refine Sq ?_
 refine zaS (J:=Bool) (fun j=>[(32,.b j)]) (fun j H' g'=>St (·<g) H0 [] H' g'/\zcw j=some r) ?_ ?_
 ·rintro v1 H g1 ⟨hS,hM⟩
  change wpA _ _ _ _ (Fr.of [(32,.b v1)]) _ _
  replace hS:St (·<g) H0 [] H g1:=hS
  replace hM:zcw v1=some r:=hM
  rcases bft v1 with hb2 | hb2
  ·replace hM:=ifT hM hb2
   refine Ct hb2 ?_
   refine Sq ?_
   refine Rg 1 ?_
   refine Oa (.i 10) ?_
   refine Ni ?_
   refine Ws ?_
   refine zaQ ?_
   refine zan ?_
   refine zaU (x:=.i 10) (f:=fun r=>.i r) (.inr rfl) ?_ (.refl _) (Option.some.inj hM) hS
   exact (zas (zae (x:=.i 10) rfl))
  ·replace hM:=ifF hM hb2
   refine Cf hb2 ?_
   refine zaz ?_
   refine Ws ?_
   refine Sq ?_
   refine Rg 1 ?_
   refine Oa (.i 0) ?_
   refine Ni ?_
   refine Ws ?_
   refine zaQ ?_
   refine zaU (x:=.i 0) (f:=fun r=>.i r) (.inr rfl) ?_ (.refl _) (Option.some.inj hM) hS
   exact (zas (zae (x:=.i 0) rfl))
 ·refine Rg 30 ?_
  refine Of ((Wheel.cells a0)) zdS ?_
  refine Olp (.i a0.Round) zaf zav ?_
  obtain ⟨r3,hr3,hM⟩:=zaj hM
  refine zau (bs:=[.i a0.Round,.i 1,.i 200]) (by decide) rfl rfl ((zec hr3).le (.k (.k (.k .nil)))) ?_
  refine zdD (e:=r3) (by decide) rfl ?_
  refine Om (.b (!r3)) ?_
  rcases bft (!r3) with hb4 | hb4
  ·replace hM:=ifT hM hb4
   refine On (want:=false) hb4 ?_
   refine On (want:=false) hb4 ?_
   refine On (want:=false) hb4 ?_
   refine On (want:=false) hb4 ?_
   refine Pt (.b true) hb4 ?_
   refine Om (.b true) ?_
   refine Og ?_
   refine Og ?_
   refine Og ?_
   refine Og ?_
   refine Og ?_
   refine Og ?_
   refine zct (v:=.b true) (e:=true) (by decide) rfl rfl rfl ?_
   refine Om (.b true) ?_
   refine Og ?_
   refine Og ?_
   refine Og ?_
   refine Og ?_
   refine zct (v:=.b true) (e:=true) (by decide) rfl rfl rfl ?_
   refine Om (.b true) ?_
   refine Og ?_
   refine Og ?_
   refine Og ?_
   refine Og ?_
   refine zct (v:=.b true) (e:=true) (by decide) rfl rfl rfl ?_
   refine Ni ?_
   exact zah true (.k .nil) ⟨(hS.keep [] rfl).up (by omega),hM⟩
  ·replace hM:=ifF hM hb4
   refine Oy (want:=false) hb4 ?_
   refine Of ((Wheel.cells a0)) zgC ?_
   refine Oy (want:=false) hb4 ?_
   refine Olp (.sl .no 1 (a0.Notches.map cI)) zaA zaO ?_
   refine Oy (want:=false) hb4 ?_
   refine zbu (n:=a0.Notches.length) (by decide) rfl (List.length_map _) zax ?_
   refine Oy (want:=false) hb4 ?_
   refine Oi (.b (decide ((a0.Notches.length:Int)>12))) ?_
   refine Pf (.b (decide ((a0.Notches.length:Int)>12))) hb4 ?_
   refine Om (.b (decide ((a0.Notches.length:Int)>12))) ?_
   rcases bft (decide ((a0.Notches.length:Int)>12)) with hb5 | hb5
   ·replace hM:=ifT hM hb5
    refine On (want:=false) hb5 ?_
    refine On (want:=false) hb5 ?_
    refine On (want:=false) hb5 ?_
    refine On (want:=false) hb5 ?_
    refine On (want:=false) hb5 ?_
    refine On (want:=false) hb5 ?_
    refine Pt (.b true) hb5 ?_
    refine Om (.b true) ?_
    refine Og ?_
    refine Og ?_
    refine Og ?_
    refine Og ?_
    refine zct (v:=.b true) (e:=true) (by decide) rfl rfl rfl ?_
    refine Om (.b true) ?_
    refine Og ?_
    refine Og ?_
    refine Og ?_
    refine Og ?_
    refine zct (v:=.b true) (e:=true) (by decide) rfl rfl rfl ?_
    refine Ni ?_
    exact zah true (.k .nil) ⟨(hS.keep [] rfl).up (by omega),hM⟩
   ·replace hM:=ifF hM hb5
    refine Oy (want:=false) hb5 ?_
    refine Of ((Wheel.cells a0)) zgC ?_
    refine Oy (want:=false) hb5 ?_
    refine Olp (.sl .no 1 (a0.Notches.map cI)) zaA zaO ?_
    refine Oy (want:=false) hb5 ?_
    refine Of ((Wheel.cells a0)) zdS ?_
    refine Oy (want:=false) hb5 ?_
    refine Olp (.i a0.Round) zaf zav ?_
    refine Oy (want:=false) hb5 ?_
    obtain ⟨r6,hr6,hM⟩:=zaj hM
    refine zau (bs:=[.sl .no 1 (a0.Notches.map cI),.i 1,.i a0.Round]) (by decide) rfl rfl ((zhY hr6).le (.k (.k (.k .nil)))) ?_
    refine Oy (want:=false) hb5 ?_
    refine zdD (e:=r6) (by decide) rfl ?_
    refine Pf (.b (!r6)) hb5 ?_
    refine Om (.b (!r6)) ?_
    rcases bft (!r6) with hb7 | hb7
    ·replace hM:=ifT hM hb7
     refine On (want:=false) hb7 ?_
     refine On (want:=false) hb7 ?_
     refine On (want:=false) hb7 ?_
     refine On (want:=false) hb7 ?_
     refine Pt (.b true) hb7 ?_
     refine Om (.b true) ?_
     refine Og ?_
     refine Og ?_
     refine Og ?_
     refine Og ?_
     refine zct (v:=.b true) (e:=true) (by decide) rfl rfl rfl ?_
     refine Ni ?_
     exact zah true (.k .nil) ⟨(hS.keep [] rfl).up (by omega),hM⟩
    ·replace hM:=ifF hM hb7
     refine Oy (want:=false) hb7 ?_
     refine Of ((Wheel.cells a0)) zcs ?_
     refine Oy (want:=false) hb7 ?_
     refine Olp (.sl .no 1 (a0.Coins.map cI)) zaA zaO ?_
     refine Oy (want:=false) hb7 ?_
     refine zbu (n:=a0.Coins.length) (by decide) rfl (List.length_map _) zax ?_
     refine Oy (want:=false) hb7 ?_
     refine Oi (.b (decide ((a0.Coins.length:Int)>4))) ?_
     refine Pf (.b (decide ((a0.Coins.length:Int)>4))) hb7 ?_
     refine Om (.b (decide ((a0.Coins.length:Int)>4))) ?_
     rcases bft (decide ((a0.Coins.length:Int)>4)) with hb8 | hb8
     ·replace hM:=ifT hM hb8
      refine On (want:=false) hb8 ?_
      refine On (want:=false) hb8 ?_
      refine On (want:=false) hb8 ?_
      refine On (want:=false) hb8 ?_
      refine Pt (.b true) hb8 ?_
      refine Ni ?_
      exact zah true (.k .nil) ⟨(hS.keep [] rfl).up (by omega),hM⟩
     ·replace hM:=ifF hM hb8
      refine Oy (want:=false) hb8 ?_
      refine Of ((Wheel.cells a0)) zcs ?_
      refine Oy (want:=false) hb8 ?_
      refine Olp (.sl .no 1 (a0.Coins.map cI)) zaA zaO ?_
      refine Oy (want:=false) hb8 ?_
      obtain ⟨r9,hr9,hM⟩:=zaj hM
      refine zau (bs:=[.sl .no 1 (a0.Coins.map cI),.i 1,.i 100]) (by decide) rfl rfl ((zhY hr9).le (.k (.k (.k .nil)))) ?_
      refine Oy (want:=false) hb8 ?_
      refine zdD (e:=r9) (by decide) rfl ?_
      refine Pf (.b (!r9)) hb8 ?_
      refine Ni ?_
      exact zah (!r9) (.k .nil) ⟨(hS.keep [] rfl).up (by omega),hM⟩
theorem zf0 {n:Nat} {a0:Wheel} {a1:List Int} {r:Bool} (hM:zdX n a0 a1=some r):zaF Try.prog 54 [.agg (Wheel.cells a0),.sl .no 1 (a1.map cI)] (.b r):=by
 refine zak mixed Try.func54 rfl (by decide) Try.ntmps54 (by simp) ?pure fun H0 g hf=>?_
 case pure=>exact .v _
 rw [zag]
 change wpA _ _ _ _ (Fr.of [(0,.agg (Wheel.cells a0)),(1,.sl .no 1 (a1.map cI))]) H0 g
 have hS:=St.start hf
 refine Sq ?_
 refine Rg 2 ?_
 refine zcC (v:=.agg (Wheel.cells a0)) (cs:=(Wheel.cells a0)) hS (by decide) rfl rfl (by omega) fun H hS=>?_
 refine Oa (.b false) ?_
 refine Ni ?_
 refine zbk (L':=[]) 0 2 hS rfl rfl rfl fun H hS=>?_
 refine Ws ?_
 refine Sq ?_
 refine Sq ?_
 refine Rg 6 ?_
 refine Om (.sl .no 1 (a1.map cI)) ?_
 refine zbu (n:=a1.length) (by decide) rfl (List.length_map _) zax ?_
 refine Of ((Wheel.cells a0)) zcs ?_
 refine Olp (.sl .no 1 (a0.Coins.map cI)) zaA zaO ?_
 refine zbu (n:=a0.Coins.length) (by decide) rfl (List.length_map _) zax ?_
 refine Oi (.b ((a1.length:Int) != (a0.Coins.length:Int))) ?_
 refine Ni ?_
 refine Ws ?_
 rcases bft ((a1.length:Int) != (a0.Coins.length:Int)) with hb1 | hb1
 ·replace hM:=ifT hM hb1
  refine Ct hb1 ?_
  refine Sq ?_
  refine Rg 1 ?_
  refine Oa (.b false) ?_
  refine Ni ?_
  refine Ws ?_
  refine zaQ ?_
  refine zan ?_
  refine zaU (x:=.b false) (f:=fun r=>.b r) (.inr rfl) ?_ (.refl _) (Option.some.inj hM) hS
  exact (zas (zae (x:=.b false) rfl))
 ·replace hM:=ifF hM hb1
  refine Cf hb1 ?_
  refine zaz ?_
  refine Ws ?_
  refine Sq ?_
  refine Rg 1 ?_
  refine Oa (.i 0) ?_
  refine Ni ?_
  refine Ws ?_
  refine zaS (J:=Int) (fun j=>[(5,.i j)]) (fun j H' g'=>St (·<g) H0 [] H' g'/\zei j=some r) ?_ ?_
  ·rintro v2 H g1 ⟨hS,hM⟩
   change wpA _ _ _ _ (Fr.of [(5,.i v2)]) _ _
   replace hS:St (·<g) H0 [] H g1:=hS
   replace hM:zei v2=some r:=hM
   refine Sq ?_
   refine Rg 3 ?_
   refine Om (.i v2) ?_
   refine Oi (.b (decide (v2<=12))) ?_
   refine Oa (.b (decide (v2<=12))) ?_
   refine Ni ?_
   refine Ws ?_
   refine zaQ ?_
   refine zaU (x:=.b (decide (v2<=12))) (f:=fun r=>.b r) (.inr rfl) ?_ (.refl _) (Option.some.inj hM) hS
   exact (zas (zae (x:=.b (decide (v2<=12))) rfl))
  ·refine Sq ?_
   refine Rg 1 ?_
   refine Oa (.i 0) ?_
   refine Ni ?_
   refine Ws ?_
   refine zay ?_
   refine zbU (V:=Int×Int) (fun v=>[(1,.sl .no 1 (a1.map cI)),(5,.i v.1),(6,.i v.2)]) (fun v m2 H' g'=>St (·<g) H0 [] H' g'/\zbV a1 m2 v.1 v.2=some r) (n:=n) (0,0) (.k (.k (.k .nil))) ⟨(hS.keep [] rfl).up (by omega),hM⟩ ?_
   rintro ⟨v3,v4⟩ m2 H g2 ⟨hS,hM⟩
   obtain _ | m2:=m2
   ·exact nomatch (show none=some _ from hM)
   change wpA _ _ _ _ (Fr.of [(1,.sl .no 1 (a1.map cI)),(5,.i v3),(6,.i v4)]) _ _
   replace hS:St (·<g) H0 [] H g2:=hS
   replace hM:zdx a1 (zbV a1 m2) v3 v4=some r:=hM
   refine Sq ?_
   refine Sq ?_
   refine Rg 4 ?_
   refine Om (.i v4) ?_
   refine Om (.sl .no 1 (a1.map cI)) ?_
   refine zbu (n:=a1.length) (by decide) rfl (List.length_map _) zax ?_
   refine Oi (.b (decide (v4<(a1.length:Int)))) ?_
   refine Ni ?_
   refine Ws ?_
   rcases bft (decide (v4<(a1.length:Int))) with hb5 | hb5
   ·replace hM:=ifT hM hb5
    refine Ct hb5 ?_
    refine zaz ?_
    refine Ws ?_
    refine Sq ?_
    refine zay ?_
    refine Sq ?_
    refine Sq ?_
    refine Rg 6 ?_
    refine Om (.sl .no 1 (a1.map cI)) ?_
    refine Om (.i v4) ?_
    obtain ⟨x6,hx6,hM⟩:=zaj hM
    refine zaW (xs:=a1) (f:=cI) (z:=v4) (u:=x6) (by decide) rfl rfl zaG hx6 ?_
    refine Olp (.i x6) zaf zav ?_
    obtain ⟨r7,hr7,hM⟩:=zaj hM
    refine zau (bs:=[.i x6,.i 0,.i 12]) (by decide) rfl rfl ((zec hr7).le (.k (.k (.k .nil)))) ?_
    refine zdD (e:=r7) (by decide) rfl ?_
    refine Ni ?_
    refine Ws ?_
    rcases bft (!r7) with hb8 | hb8
    ·replace hM:=ifT hM hb8
     refine Ct hb8 ?_
     refine Sq ?_
     refine Rg 1 ?_
     refine Oa (.b false) ?_
     refine Ni ?_
     refine Ws ?_
     refine zaQ ?_
     refine zan ?_
     refine za1 ?_
     refine zan ?_
     refine zcj ?_
     refine za1 ?_
     refine zcF ?_
     refine zaU (x:=.b false) (f:=fun r=>.b r) (.inr rfl) ?_ (.refl _) (Option.some.inj hM) hS
     exact (zas (zae (x:=.b false) rfl))
    ·replace hM:=ifF hM hb8
     refine Cf hb8 ?_
     refine zaz ?_
     refine Ws ?_
     refine Rg 7 ?_
     refine Om (.i v3) ?_
     refine Om (.sl .no 1 (a1.map cI)) ?_
     refine Om (.i v4) ?_
     obtain ⟨x9,hx9,hM⟩:=zaj hM
     refine zaW (xs:=a1) (f:=cI) (z:=v4) (u:=x9) (by decide) rfl rfl zaG hx9 ?_
     refine Olp (.i x9) zaf zav ?_
     refine Oi (.i (w64 (v3+x9))) ?_
     refine Oa (.i (w64 (v3+x9))) ?_
     refine Ni ?_
     refine zal ?_
     refine Ws ?_
     refine Rg 3 ?_
     refine Om (.i v4) ?_
     refine Oi (.i (w64 (v4+1))) ?_
     refine Oa (.i (w64 (v4+1))) ?_
     refine Ni ?_
     exact za6 (w64 (v3+x9),w64 (v4+1)) (Nat.lt_succ_self _) (.k (.k (.k .nil))) ⟨(hS.keep [] rfl).up (by omega),hM⟩
   ·replace hM:=ifF hM hb5
    refine Cf hb5 ?_
    refine zbM ?_
    refine zat ?_
    refine zap ?_
    refine zaD ?_
    exact zah v3 (.k .nil) ⟨(hS.keep [] rfl).up (by omega),hM⟩
theorem zed {a0:Int} {a1:Int} {a2:Int} {r:Bool} (hM:zc5 a0 a1 a2=some r):zaF Try.prog 65 [.i a0,.i a1,.i a2] (.b r):=by
 refine zak mixed Try.func65 rfl (by decide) Try.ntmps65 (by simp) ?pure fun H0 g hf=>?_
 case pure=>exact .v _
 rw [zag]
 change wpA _ _ _ _ (Fr.of [(0,.i a0),(1,.i a1),(2,.i a2)]) H0 g
 have hS:=St.start hf
 refine Sq ?_
 refine Rg 1 ?_
 refine Oa (.b false) ?_
 refine Ni ?_
 refine Ws ?_
 refine Sq ?_
 refine Rg 5 ?_
 refine Om (.i a0) ?_
 refine Om (.i a1) ?_
 refine Om (.i a2) ?_
 obtain ⟨r1,hr1,hM⟩:=zaj hM
 refine zau (bs:=[.i a0,.i a1,.i a2]) (by decide) rfl rfl ((zec hr1).le (.k (.k (.k .nil)))) ?_
 refine Oa (.b r1) ?_
 refine Ni ?_
 refine zff [(6,.b r1)] (.k .nil) ?_
 refine zaQ ?_
 refine zaU (x:=.b r1) (f:=fun r=>.b r) (.inr rfl) ?_ (.refl _) (Option.some.inj hM) hS
 exact (zas (zae (x:=.b r1) rfl))
theorem ziN {n:Nat} {a0:Box} {r:Int} (hM:zfR n a0=some r):zaF Try.prog 34 [.agg (Box.cells a0)] (.i r):=by
 refine zak mixed Try.func34 rfl (by decide) Try.ntmps34 (by simp) ?pure fun H0 g hf=>?_
 case pure=>exact .v _
 rw [zag]
 change wpA _ _ _ _ (Fr.of [(0,.agg (Box.cells a0))]) H0 g
 have hS:=St.start hf
 refine Sq ?_
 refine Rg 2 ?_
 refine zcC (v:=.agg (Box.cells a0)) (cs:=(Box.cells a0)) hS (by decide) rfl rfl (by omega) fun H hS=>?_
 refine Oa (.i 0) ?_
 refine Ni ?_
 refine zbk (L':=[]) 0 1 hS rfl rfl rfl fun H hS=>?_
 refine Ws ?_
 refine Sq ?_
 refine zaS (J:=Bool) (fun j=>[(1,.ep (Box.cells a0)),(44,.b j)]) (fun j H' g'=>St (·<g) H0 [] H' g'/\zb7 n a0 j=some r) ?_ ?_
 ·rintro v1 H g1 ⟨hS,hM⟩
  change wpA _ _ _ _ (Fr.of [(1,.ep (Box.cells a0)),(44,.b v1)]) _ _
  replace hS:St (·<g) H0 [] H g1:=hS
  replace hM:zb7 n a0 v1=some r:=hM
  rcases bft v1 with hb2 | hb2
  ·replace hM:=ifT hM hb2
   refine Ct hb2 ?_
   refine Sq ?_
   refine Rg 1 ?_
   refine Oa (.i 50) ?_
   refine Ni ?_
   refine Ws ?_
   refine zaQ ?_
   refine zan ?_
   refine zaU (x:=.i 50) (f:=fun r=>.i r) (.inr rfl) ?_ (.refl _) (Option.some.inj hM) hS
   exact (zas (zae (x:=.i 50) rfl))
  ·replace hM:=ifF hM hb2
   refine Cf hb2 ?_
   refine zaz ?_
   refine Ws ?_
   refine zaS (J:=Unit) (fun j=>[(1,.ep (Box.cells a0))]) (fun j H' g'=>St (·<g) H0 [] H' g'/\zd8 n a0=some r) ?_ ?_
   ·rintro _ H g2 ⟨hS,hM⟩
    change wpA _ _ _ _ (Fr.of [(1,.ep (Box.cells a0))]) _ _
    replace hS:St (·<g) H0 [] H g2:=hS
    replace hM:zd8 n a0=some r:=hM
    refine Sq ?_
    refine Sq ?_
    have hS0:=hS
    refine zcD (n:=9) rfl (by kernel_rfl) ?_
    refine Of ((Box.cells a0)) zbK ?_
    refine Olg (.agg (Wheel.cells a0.Wheel)) zb0 ?_
    refine Of ((Box.cells a0)) zcN ?_
    refine Olp (.sl .no 1 (a0.Found.map cI)) zaA zaO ?_
    refine Of ((Box.cells a0)) zfo ?_
    refine Olp (.sl .no 1 (a0.Slugs.map cI)) zaA zaO ?_
    obtain ⟨r3,hr3,hM⟩:=zaj hM
    refine zau (bs:=[.sl .no 1 (a0.Found.map cI),.sl .no 1 (a0.Slugs.map cI)]) (by decide) rfl rfl ((zht hr3).le (.k (.k .nil))) ?_
    obtain ⟨r4,hr4,hM⟩:=zaj hM
    refine zau (bs:=[.agg (Wheel.cells a0.Wheel),.sl .no 1 (r3.map cI)]) (by decide) rfl rfl ((zf0 hr4).le (.k (.k .nil))) ?_
    refine zdD (e:=r4) (by decide) rfl ?_
    refine Ni ?_
    refine Ws ?_
    rcases bft (!r4) with hb5 | hb5
    ·replace hM:=ifT hM hb5
     refine Ct hb5 ?_
     refine Sq ?_
     refine Rg 1 ?_
     refine Oa (.i 50) ?_
     refine Ni ?_
     refine Ws ?_
     refine zaQ ?_
     refine zan ?_
     refine zaU (x:=.i 50) (f:=fun r=>.i r) (.inr rfl) ?_ (.refl _) (Option.some.inj hM) hS
     exact (zas (zae (x:=.i 50) rfl))
    ·replace hM:=ifF hM hb5
     refine Cf hb5 ?_
     refine zaz ?_
     refine Ws ?_
     refine Sq ?_
     refine Rg 1 ?_
     refine Oa (.i 0) ?_
     refine Ni ?_
     refine Ws ?_
     refine zaQ ?_
     refine zaU (x:=.i 0) (f:=fun r=>.i r) (.inr rfl) ?_ (.refl _) (Option.some.inj hM) hS
     exact (zas (zae (x:=.i 0) rfl))
   ·refine Sq ?_
    refine Rg 1 ?_
    refine Oa (.i 0) ?_
    refine Ni ?_
    refine Ws ?_
    refine zay ?_
    refine zbU (V:=Int) (fun v=>[(1,.ep (Box.cells a0)),(3,.i v)]) (fun v m3 H' g'=>St (·<g) H0 [] H' g'/\zb6 n a0 m3 v=some r) (n:=n) 0 (.k (.k .nil)) ⟨(hS.keep [] rfl).up (by omega),hM⟩ ?_
    rintro v6 m3 H g3 ⟨hS,hM⟩
    obtain _ | m3:=m3
    ·exact nomatch (show none=some _ from hM)
    change wpA _ _ _ _ (Fr.of [(1,.ep (Box.cells a0)),(3,.i v6)]) _ _
    replace hS:St (·<g) H0 [] H g3:=hS
    replace hM:zej n a0 (zb6 n a0 m3) v6=some r:=hM
    refine Sq ?_
    refine Sq ?_
    refine Rg 5 ?_
    refine Om (.i v6) ?_
    refine Of ((Box.cells a0)) zcN ?_
    refine Olp (.sl .no 1 (a0.Found.map cI)) zaA zaO ?_
    refine zbu (n:=a0.Found.length) (by decide) rfl (List.length_map _) zax ?_
    refine Oi (.b (decide (v6<(a0.Found.length:Int)))) ?_
    refine Ni ?_
    refine Ws ?_
    rcases bft (decide (v6<(a0.Found.length:Int))) with hb7 | hb7
    ·replace hM:=ifT hM hb7
     refine Ct hb7 ?_
     refine zaz ?_
     refine Ws ?_
     refine Sq ?_
     refine zay ?_
     refine Sq ?_
     have hS0:=hS
     refine zcD (n:=12) rfl (by kernel_rfl) ?_
     refine Of ((Box.cells a0)) zgD ?_
     refine Olp (.sl .no 1 (a0.Marked.map cI)) zaA zaO ?_
     refine Om (.i v6) ?_
     obtain ⟨x8,hx8,hM⟩:=zaj hM
     refine zaW (xs:=a0.Marked) (f:=cI) (z:=v6) (u:=x8) (by decide) rfl rfl zaG hx8 ?_
     refine Olp (.i x8) zaf zav ?_
     refine Of ((Box.cells a0)) zcN ?_
     refine Olp (.sl .no 1 (a0.Found.map cI)) zaA zaO ?_
     refine Om (.i v6) ?_
     obtain ⟨x9,hx9,hM⟩:=zaj hM
     refine zaW (xs:=a0.Found) (f:=cI) (z:=v6) (u:=x9) (by decide) rfl rfl zaG hx9 ?_
     refine Olp (.i x9) zaf zav ?_
     obtain ⟨r10,hr10,hM⟩:=zaj hM
     refine zau (bs:=[.i x8,.i 0,.i x9]) (by decide) rfl rfl ((zed hr10).le (.k (.k (.k .nil)))) ?_
     refine zdD (e:=r10) (by decide) rfl ?_
     refine Ni ?_
     refine Ws ?_
     rcases bft (!r10) with hb11 | hb11
     ·replace hM:=ifT hM hb11
      refine Ct hb11 ?_
      refine Sq ?_
      refine Rg 1 ?_
      refine Oa (.i 50) ?_
      refine Ni ?_
      refine Ws ?_
      refine zaQ ?_
      refine za1 ?_
      refine zan ?_
      refine zcj ?_
      refine za1 ?_
      refine zcF ?_
      refine zaU (x:=.i 50) (f:=fun r=>.i r) (.inr rfl) ?_ (.refl _) (Option.some.inj hM) hS
      exact (zas (zae (x:=.i 50) rfl))
     ·replace hM:=ifF hM hb11
      refine Cf hb11 ?_
      refine zaz ?_
      refine zal ?_
      refine Ws ?_
      refine Rg 3 ?_
      refine Om (.i v6) ?_
      refine Oi (.i (w64 (v6+1))) ?_
      refine Oa (.i (w64 (v6+1))) ?_
      refine Ni ?_
      exact za6 (w64 (v6+1)) (Nat.lt_succ_self _) (.k (.k .nil)) ⟨(hS.keep [] rfl).up (by omega),hM⟩
    ·replace hM:=ifF hM hb7
     refine Cf hb7 ?_
     refine zbM ?_
     refine zat ?_
     refine zap ?_
     refine zaD ?_
     exact zah () (.k .nil) ⟨(hS.keep [] rfl).up (by omega),hM⟩
 ·refine Rg 41 ?_
  refine Of ((Box.cells a0)) zbK ?_
  refine Olg (.agg (Wheel.cells a0.Wheel)) zb0 ?_
  obtain ⟨r12,hr12,hM⟩:=zaj hM
  refine zau (bs:=[.agg (Wheel.cells a0.Wheel)]) (by decide) rfl rfl ((zmb hr12).le (.k .nil)) ?_
  refine Oi (.b (r12 != 0)) ?_
  refine Om (.b (r12 != 0)) ?_
  rcases bft (r12 != 0) with hb13 | hb13
  ·replace hM:=ifT hM hb13
   refine On (want:=false) hb13 ?_
   refine On (want:=false) hb13 ?_
   refine On (want:=false) hb13 ?_
   refine On (want:=false) hb13 ?_
   refine On (want:=false) hb13 ?_
   refine On (want:=false) hb13 ?_
   refine Pt (.b true) hb13 ?_
   refine Om (.b true) ?_
   refine Og ?_
   refine Og ?_
   refine Og ?_
   refine Og ?_
   refine Og ?_
   refine Og ?_
   refine zct (v:=.b true) (e:=true) (by decide) rfl rfl rfl ?_
   refine Om (.b true) ?_
   refine Og ?_
   refine Og ?_
   refine Og ?_
   refine Og ?_
   refine Og ?_
   refine Og ?_
   refine Og ?_
   refine zct (v:=.b true) (e:=true) (by decide) rfl rfl rfl ?_
   refine Om (.b true) ?_
   refine Og ?_
   refine Og ?_
   refine Og ?_
   refine Og ?_
   refine zct (v:=.b true) (e:=true) (by decide) rfl rfl rfl ?_
   refine Om (.b true) ?_
   refine Og ?_
   refine Og ?_
   refine Og ?_
   refine Og ?_
   refine zct (v:=.b true) (e:=true) (by decide) rfl rfl rfl ?_
   refine Ni ?_
   exact zah true (.k (.k .nil)) ⟨(hS.keep [] rfl).up (by omega),hM⟩
  ·replace hM:=ifF hM hb13
   refine Oy (want:=false) hb13 ?_
   refine Of ((Box.cells a0)) zbK ?_
   refine Oy (want:=false) hb13 ?_
   refine Olg (.agg (Wheel.cells a0.Wheel)) zb0 ?_
   refine Oy (want:=false) hb13 ?_
   refine Of ((Box.cells a0)) zcN ?_
   refine Oy (want:=false) hb13 ?_
   refine Olp (.sl .no 1 (a0.Found.map cI)) zaA zaO ?_
   refine Oy (want:=false) hb13 ?_
   obtain ⟨r14,hr14,hM⟩:=zaj hM
   refine zau (bs:=[.agg (Wheel.cells a0.Wheel),.sl .no 1 (a0.Found.map cI)]) (by decide) rfl rfl ((zf0 hr14).le (.k (.k .nil))) ?_
   refine Oy (want:=false) hb13 ?_
   refine zdD (e:=r14) (by decide) rfl ?_
   refine Pf (.b (!r14)) hb13 ?_
   refine Om (.b (!r14)) ?_
   rcases bft (!r14) with hb15 | hb15
   ·replace hM:=ifT hM hb15
    refine On (want:=false) hb15 ?_
    refine On (want:=false) hb15 ?_
    refine On (want:=false) hb15 ?_
    refine On (want:=false) hb15 ?_
    refine On (want:=false) hb15 ?_
    refine On (want:=false) hb15 ?_
    refine Pt (.b true) hb15 ?_
    refine Om (.b true) ?_
    refine Og ?_
    refine Og ?_
    refine Og ?_
    refine Og ?_
    refine Og ?_
    refine Og ?_
    refine Og ?_
    refine zct (v:=.b true) (e:=true) (by decide) rfl rfl rfl ?_
    refine Om (.b true) ?_
    refine Og ?_
    refine Og ?_
    refine Og ?_
    refine Og ?_
    refine zct (v:=.b true) (e:=true) (by decide) rfl rfl rfl ?_
    refine Om (.b true) ?_
    refine Og ?_
    refine Og ?_
    refine Og ?_
    refine Og ?_
    refine zct (v:=.b true) (e:=true) (by decide) rfl rfl rfl ?_
    refine Ni ?_
    exact zah true (.k (.k .nil)) ⟨(hS.keep [] rfl).up (by omega),hM⟩
   ·replace hM:=ifF hM hb15
    refine Oy (want:=false) hb15 ?_
    refine Of ((Box.cells a0)) zbK ?_
    refine Oy (want:=false) hb15 ?_
    refine Olg (.agg (Wheel.cells a0.Wheel)) zb0 ?_
    refine Oy (want:=false) hb15 ?_
    refine Of ((Box.cells a0)) zfo ?_
    refine Oy (want:=false) hb15 ?_
    refine Olp (.sl .no 1 (a0.Slugs.map cI)) zaA zaO ?_
    refine Oy (want:=false) hb15 ?_
    obtain ⟨r16,hr16,hM⟩:=zaj hM
    refine zau (bs:=[.agg (Wheel.cells a0.Wheel),.sl .no 1 (a0.Slugs.map cI)]) (by decide) rfl rfl ((zf0 hr16).le (.k (.k .nil))) ?_
    refine Oy (want:=false) hb15 ?_
    refine zdD (e:=r16) (by decide) rfl ?_
    refine Pf (.b (!r16)) hb15 ?_
    refine Om (.b (!r16)) ?_
    rcases bft (!r16) with hb17 | hb17
    ·replace hM:=ifT hM hb17
     refine On (want:=false) hb17 ?_
     refine On (want:=false) hb17 ?_
     refine On (want:=false) hb17 ?_
     refine On (want:=false) hb17 ?_
     refine On (want:=false) hb17 ?_
     refine On (want:=false) hb17 ?_
     refine On (want:=false) hb17 ?_
     refine Pt (.b true) hb17 ?_
     refine Om (.b true) ?_
     refine Og ?_
     refine Og ?_
     refine Og ?_
     refine Og ?_
     refine zct (v:=.b true) (e:=true) (by decide) rfl rfl rfl ?_
     refine Om (.b true) ?_
     refine Og ?_
     refine Og ?_
     refine Og ?_
     refine Og ?_
     refine zct (v:=.b true) (e:=true) (by decide) rfl rfl rfl ?_
     refine Ni ?_
     exact zah true (.k (.k .nil)) ⟨(hS.keep [] rfl).up (by omega),hM⟩
    ·replace hM:=ifF hM hb17
     refine Oy (want:=false) hb17 ?_
     refine Of ((Box.cells a0)) zgD ?_
     refine Oy (want:=false) hb17 ?_
     refine Olp (.sl .no 1 (a0.Marked.map cI)) zaA zaO ?_
     refine Oy (want:=false) hb17 ?_
     refine zbu (n:=a0.Marked.length) (by decide) rfl (List.length_map _) zax ?_
     refine Oy (want:=false) hb17 ?_
     refine Of ((Box.cells a0)) zcN ?_
     refine Oy (want:=false) hb17 ?_
     refine Olp (.sl .no 1 (a0.Found.map cI)) zaA zaO ?_
     refine Oy (want:=false) hb17 ?_
     refine zbu (n:=a0.Found.length) (by decide) rfl (List.length_map _) zax ?_
     refine Oy (want:=false) hb17 ?_
     refine Oi (.b ((a0.Marked.length:Int) != (a0.Found.length:Int))) ?_
     refine Pf (.b ((a0.Marked.length:Int) != (a0.Found.length:Int))) hb17 ?_
     refine Om (.b ((a0.Marked.length:Int) != (a0.Found.length:Int))) ?_
     rcases bft ((a0.Marked.length:Int) != (a0.Found.length:Int)) with hb18 | hb18
     ·replace hM:=ifT hM hb18
      refine On (want:=false) hb18 ?_
      refine On (want:=false) hb18 ?_
      refine On (want:=false) hb18 ?_
      refine On (want:=false) hb18 ?_
      refine Pt (.b true) hb18 ?_
      refine Om (.b true) ?_
      refine Og ?_
      refine Og ?_
      refine Og ?_
      refine Og ?_
      refine zct (v:=.b true) (e:=true) (by decide) rfl rfl rfl ?_
      refine Ni ?_
      exact zah true (.k (.k .nil)) ⟨(hS.keep [] rfl).up (by omega),hM⟩
     ·replace hM:=ifF hM hb18
      refine Oy (want:=false) hb18 ?_
      refine Of ((Box.cells a0)) zfZ ?_
      refine Oy (want:=false) hb18 ?_
      refine Olp (.i a0.Plays) zaf zav ?_
      refine Oy (want:=false) hb18 ?_
      obtain ⟨r19,hr19,hM⟩:=zaj hM
      refine zau (bs:=[.i a0.Plays,.i 0,.i 9999]) (by decide) rfl rfl ((zed hr19).le (.k (.k (.k .nil)))) ?_
      refine Oy (want:=false) hb18 ?_
      refine zdD (e:=r19) (by decide) rfl ?_
      refine Pf (.b (!r19)) hb18 ?_
      refine Om (.b (!r19)) ?_
      rcases bft (!r19) with hb20 | hb20
      ·replace hM:=ifT hM hb20
       refine On (want:=false) hb20 ?_
       refine On (want:=false) hb20 ?_
       refine On (want:=false) hb20 ?_
       refine On (want:=false) hb20 ?_
       refine Pt (.b true) hb20 ?_
       refine Ni ?_
       exact zah true (.k (.k .nil)) ⟨(hS.keep [] rfl).up (by omega),hM⟩
      ·replace hM:=ifF hM hb20
       refine Oy (want:=false) hb20 ?_
       refine Of ((Box.cells a0)) ziG ?_
       refine Oy (want:=false) hb20 ?_
       refine Olp (.i a0.Skips) zaf zav ?_
       refine Oy (want:=false) hb20 ?_
       obtain ⟨r21,hr21,hM⟩:=zaj hM
       refine zau (bs:=[.i a0.Skips,.i 0,.i 9]) (by decide) rfl rfl ((zed hr21).le (.k (.k (.k .nil)))) ?_
       refine Oy (want:=false) hb20 ?_
       refine zdD (e:=r21) (by decide) rfl ?_
       refine Pf (.b (!r21)) hb20 ?_
       refine Ni ?_
       exact zah (!r21) (.k (.k .nil)) ⟨(hS.keep [] rfl).up (by omega),hM⟩
theorem zg1 {n:Nat} {a0:List Int} {r:Int} (hM:zeX n a0=some r):zaF Try.prog 55 [.sl .no 1 (a0.map cI)] (.i r):=by
 refine zak mixed Try.func55 rfl (by decide) Try.ntmps55 (by simp) ?pure fun H0 g hf=>?_
 case pure=>exact .v _
 rw [zag]
 change wpA _ _ _ _ (Fr.of [(0,.sl .no 1 (a0.map cI))]) H0 g
 have hS:=St.start hf
 refine Sq ?_
 refine Rg 1 ?_
 refine Oa (.i 0) ?_
 refine Ni ?_
 refine Ws ?_
 refine Sq ?_
 refine Rg 1 ?_
 refine Oa (.i 0) ?_
 refine Ni ?_
 refine Ws ?_
 refine zaS (J:=Int) (fun j=>[(3,.i j)]) (fun j H' g'=>St (·<g) H0 [] H' g'/\ze6 j=some r) ?_ ?_
 ·rintro v1 H g1 ⟨hS,hM⟩
  change wpA _ _ _ _ (Fr.of [(3,.i v1)]) _ _
  replace hS:St (·<g) H0 [] H g1:=hS
  replace hM:ze6 v1=some r:=hM
  refine Sq ?_
  refine Rg 2 ?_
  refine Om (.i v1) ?_
  refine Oa (.i v1) ?_
  refine Ni ?_
  refine Ws ?_
  refine zaQ ?_
  refine zaU (x:=.i v1) (f:=fun r=>.i r) (.inr rfl) ?_ (.refl _) (Option.some.inj hM) hS
  exact (zas (zae (x:=.i v1) rfl))
 ·refine Sq ?_
  refine Rg 1 ?_
  refine Oa (.i 0) ?_
  refine Ni ?_
  refine Ws ?_
  refine zay ?_
  refine zbU (V:=Int×Int) (fun v=>[(0,.sl .no 1 (a0.map cI)),(3,.i v.1),(4,.i v.2)]) (fun v m2 H' g'=>St (·<g) H0 [] H' g'/\zcO a0 m2 v.1 v.2=some r) (n:=n) (0,0) (.k (.k (.k .nil))) ⟨(hS.keep [] rfl).up (by omega),hM⟩ ?_
  rintro ⟨v2,v3⟩ m2 H g2 ⟨hS,hM⟩
  obtain _ | m2:=m2
  ·exact nomatch (show none=some _ from hM)
  change wpA _ _ _ _ (Fr.of [(0,.sl .no 1 (a0.map cI)),(3,.i v2),(4,.i v3)]) _ _
  replace hS:St (·<g) H0 [] H g2:=hS
  replace hM:zek a0 (zcO a0 m2) v2 v3=some r:=hM
  refine Sq ?_
  refine Sq ?_
  refine Rg 4 ?_
  refine Om (.i v3) ?_
  refine Om (.sl .no 1 (a0.map cI)) ?_
  refine zbu (n:=a0.length) (by decide) rfl (List.length_map _) zax ?_
  refine Oi (.b (decide (v3<(a0.length:Int)))) ?_
  refine Ni ?_
  refine Ws ?_
  rcases bft (decide (v3<(a0.length:Int))) with hb4 | hb4
  ·replace hM:=ifT hM hb4
   refine Ct hb4 ?_
   refine zaz ?_
   refine Ws ?_
   refine Sq ?_
   refine zay ?_
   refine Rg 7 ?_
   refine Om (.i v2) ?_
   refine Om (.sl .no 1 (a0.map cI)) ?_
   refine Om (.i v3) ?_
   obtain ⟨x5,hx5,hM⟩:=zaj hM
   refine zaW (xs:=a0) (f:=cI) (z:=v3) (u:=x5) (by decide) rfl rfl zaG hx5 ?_
   refine Olp (.i x5) zaf zav ?_
   refine Oi (.i (w64 (v2+x5))) ?_
   refine Oa (.i (w64 (v2+x5))) ?_
   refine Ni ?_
   refine zal ?_
   refine Ws ?_
   refine Rg 3 ?_
   refine Om (.i v3) ?_
   refine Oi (.i (w64 (v3+1))) ?_
   refine Oa (.i (w64 (v3+1))) ?_
   refine Ni ?_
   exact za6 (w64 (v2+x5),w64 (v3+1)) (Nat.lt_succ_self _) (.k (.k (.k .nil))) ⟨(hS.keep [] rfl).up (by omega),hM⟩
  ·replace hM:=ifF hM hb4
   refine Cf hb4 ?_
   refine zbM ?_
   refine zat ?_
   refine zap ?_
   refine zaD ?_
   exact zah v2 (.k .nil) ⟨(hS.keep [] rfl).up (by omega),hM⟩
theorem zn5 {n:Nat} {a0:Box} {r:Bool} (hM:zhr n a0=some r):zaF Try.prog 32 [.agg (Box.cells a0)] (.b r):=by
 refine zak mixed Try.func32 rfl (by decide) Try.ntmps32 (by simp) ?pure fun H0 g hf=>?_
 case pure=>exact .v _
 rw [zag]
 change wpA _ _ _ _ (Fr.of [(0,.agg (Box.cells a0))]) H0 g
 have hS:=St.start hf
 refine Sq ?_
 refine Rg 2 ?_
 refine zcC (v:=.agg (Box.cells a0)) (cs:=(Box.cells a0)) hS (by decide) rfl rfl (by omega) fun H hS=>?_
 refine Oa (.b false) ?_
 refine Ni ?_
 refine zbk (L':=[]) 0 1 hS rfl rfl rfl fun H hS=>?_
 refine Ws ?_
 refine Sq ?_
 refine Sq ?_
 refine Rg 19 ?_
 refine Of ((Box.cells a0)) zbK ?_
 refine Of ((Box.cells a0)) zgC ?_
 refine Olp (.sl .no 1 (a0.Wheel.Notches.map cI)) zaA zaO ?_
 refine zbu (n:=a0.Wheel.Notches.length) (by decide) rfl (List.length_map _) zax ?_
 refine Of ((Box.cells a0)) zbK ?_
 refine Of ((Box.cells a0)) zcs ?_
 refine Olp (.sl .no 1 (a0.Wheel.Coins.map cI)) zaA zaO ?_
 refine zbu (n:=a0.Wheel.Coins.length) (by decide) rfl (List.length_map _) zax ?_
 refine Of ((Box.cells a0)) zcN ?_
 refine Olp (.sl .no 1 (a0.Found.map cI)) zaA zaO ?_
 refine zbu (n:=a0.Found.length) (by decide) rfl (List.length_map _) zax ?_
 refine Of ((Box.cells a0)) zgD ?_
 refine Olp (.sl .no 1 (a0.Marked.map cI)) zaA zaO ?_
 refine zbu (n:=a0.Marked.length) (by decide) rfl (List.length_map _) zax ?_
 refine Of ((Box.cells a0)) zfo ?_
 refine Olp (.sl .no 1 (a0.Slugs.map cI)) zaA zaO ?_
 refine zbu (n:=a0.Slugs.length) (by decide) rfl (List.length_map _) zax ?_
 refine ztL (v:=.i (max (max (max (max (a0.Wheel.Notches.length:Int) (a0.Wheel.Coins.length:Int)) (a0.Found.length:Int)) (a0.Marked.length:Int)) (a0.Slugs.length:Int))) (by decide) rfl ?_
 refine Oi (.b (decide ((max (max (max (max (a0.Wheel.Notches.length:Int) (a0.Wheel.Coins.length:Int)) (a0.Found.length:Int)) (a0.Marked.length:Int)) (a0.Slugs.length:Int))>40))) ?_
 refine Ni ?_
 refine Ws ?_
 rcases bft (decide ((max (max (max (max (a0.Wheel.Notches.length:Int) (a0.Wheel.Coins.length:Int)) (a0.Found.length:Int)) (a0.Marked.length:Int)) (a0.Slugs.length:Int))>40)) with hb1 | hb1
 ·replace hM:=ifT hM hb1
  refine Ct hb1 ?_
  refine Sq ?_
  refine Rg 1 ?_
  refine Oa (.b true) ?_
  refine Ni ?_
  refine Ws ?_
  refine zaQ ?_
  refine zan ?_
  refine zaU (x:=.b true) (f:=fun r=>.b r) (.inr rfl) ?_ (.refl _) (Option.some.inj hM) hS
  exact (zas (zae (x:=.b true) rfl))
 ·replace hM:=ifF hM hb1
  refine Cf hb1 ?_
  refine zaz ?_
  refine Ws ?_
  refine zaS (J:=Bool) (fun j=>[(2,.b j)]) (fun j H' g'=>St (·<g) H0 [] H' g'/\zev j=some r) ?_ ?_
  ·rintro v2 H g1 ⟨hS,hM⟩
   change wpA _ _ _ _ (Fr.of [(2,.b v2)]) _ _
   replace hS:St (·<g) H0 [] H g1:=hS
   replace hM:zev v2=some r:=hM
   refine zaQ ?_
   refine zaU (x:=.b v2) (f:=fun r=>.b r) (.inr rfl) ?_ (.refl _) (Option.some.inj hM) hS
   exact (zas (zae (x:=.b v2) rfl))
  ·refine Rg 16 ?_
   refine Olg (.agg (Box.cells a0)) zba ?_
   obtain ⟨r3,hr3,hM⟩:=zaj hM
   refine zau (bs:=[.agg (Box.cells a0)]) (by decide) rfl rfl ((ziN hr3).le (.k .nil)) ?_
   refine Oi (.b (r3==0)) ?_
   refine Om (.b (r3==0)) ?_
   rcases bft (r3==0) with hb4 | hb4
   ·replace hM:=ifT hM hb4
    refine Oy (want:=true) hb4 ?_
    refine Olg (.agg (Box.cells a0)) zba ?_
    refine Oy (want:=true) hb4 ?_
    obtain ⟨r5,hr5,hM⟩:=zaj hM
    refine zau (bs:=[.agg (Box.cells a0)]) (by decide) rfl rfl ((zia hr5).le (.k .nil)) ?_
    refine Oy (want:=true) hb4 ?_
    obtain ⟨r6,hr6,hM⟩:=zaj hM
    refine zau (bs:=[.sl .no 1 (r5.map cI)]) (by decide) rfl rfl ((zg1 hr6).le (.k .nil)) ?_
    refine Oy (want:=true) hb4 ?_
    refine Oi (.b (decide (r6>3))) ?_
    refine Oy (want:=true) hb4 ?_
    refine Om (.b (decide (r6>3))) ?_
    rcases bft (decide (r6>3)) with hb7 | hb7
    ·replace hM:=ifT hM hb7
     refine On (want:=false) hb7 ?_
     refine On (want:=false) hb7 ?_
     refine On (want:=false) hb7 ?_
     refine On (want:=false) hb7 ?_
     refine Oy (want:=true) hb4 ?_
     refine Pt (.b true) hb7 ?_
     refine Pt (.b true) hb4 ?_
     refine Oa (.b true) ?_
     refine Ni ?_
     exact zah true (.k .nil) ⟨(hS.keep [] rfl).up (by omega),hM⟩
    ·replace hM:=ifF hM hb7
     refine Oy (want:=false) hb7 ?_
     refine Of ((Box.cells a0)) zcN ?_
     refine Oy (want:=false) hb7 ?_
     refine Olp (.sl .no 1 (a0.Found.map cI)) zaA zaO ?_
     refine Oy (want:=false) hb7 ?_
     refine zbu (n:=a0.Found.length) (by decide) rfl (List.length_map _) zax ?_
     refine Oy (want:=false) hb7 ?_
     refine Oi (.b (decide ((a0.Found.length:Int)>3))) ?_
     refine Oy (want:=true) hb4 ?_
     refine Pf (.b (decide ((a0.Found.length:Int)>3))) hb7 ?_
     refine Pt (.b (decide ((a0.Found.length:Int)>3))) hb4 ?_
     refine Oa (.b (decide ((a0.Found.length:Int)>3))) ?_
     refine Ni ?_
     exact zah (decide ((a0.Found.length:Int)>3)) (.k .nil) ⟨(hS.keep [] rfl).up (by omega),hM⟩
   ·replace hM:=ifF hM hb4
    refine On (want:=true) hb4 ?_
    refine On (want:=true) hb4 ?_
    refine On (want:=true) hb4 ?_
    refine On (want:=true) hb4 ?_
    refine On (want:=true) hb4 ?_
    refine zaw (j:=8) (by decide) rfl ?_
    refine zaw (j:=8) (by decide) rfl ?_
    refine zaw (j:=8) (by decide) rfl ?_
    refine zaw (j:=8) (by decide) rfl ?_
    refine On (want:=true) hb4 ?_
    refine Pf (.b false) hb4 ?_
    refine Oa (.b false) ?_
    refine Ni ?_
    exact zah false (.k .nil) ⟨(hS.keep [] rfl).up (by omega),hM⟩
theorem zmc {n:Nat} {a0:Box} {r:Bool} (hM:zfS n a0=some r):zaF Try.prog 15 [.agg (Box.cells a0)] (.b r):=by
 refine zak mixed Try.func15 rfl (by decide) Try.ntmps15 (by simp) ?pure fun H0 g hf=>?_
 case pure=>exact .v _
 rw [zag]
 change wpA _ _ _ _ (Fr.of [(0,.agg (Box.cells a0))]) H0 g
 have hS:=St.start hf
 refine Sq ?_
 refine Rg 2 ?_
 refine zcC (v:=.agg (Box.cells a0)) (cs:=(Box.cells a0)) hS (by decide) rfl rfl (by omega) fun H hS=>?_
 refine Oa (.b false) ?_
 refine Ni ?_
 refine zbk (L':=[]) 0 1 hS rfl rfl rfl fun H hS=>?_
 refine Ws ?_
 refine zaS (J:=Bool) (fun j=>[(2,.b j)]) (fun j H' g'=>St (·<g) H0 [] H' g'/\ze7 j=some r) ?_ ?_
 ·rintro v1 H g1 ⟨hS,hM⟩
  change wpA _ _ _ _ (Fr.of [(2,.b v1)]) _ _
  replace hS:St (·<g) H0 [] H g1:=hS
  replace hM:ze7 v1=some r:=hM
  refine zaQ ?_
  refine zaU (x:=.b v1) (f:=fun r=>.b r) (.inr rfl) ?_ (.refl _) (Option.some.inj hM) hS
  exact (zas (zae (x:=.b v1) rfl))
 ·refine Rg 9 ?_
  refine Olg (.agg (Box.cells a0)) zba ?_
  obtain ⟨r2,hr2,hM⟩:=zaj hM
  refine zau (bs:=[.agg (Box.cells a0)]) (by decide) rfl rfl ((zn5 hr2).le (.k .nil)) ?_
  refine zdD (e:=r2) (by decide) rfl ?_
  refine Om (.b (!r2)) ?_
  rcases bft (!r2) with hb3 | hb3
  ·replace hM:=ifT hM hb3
   refine Oy (want:=true) hb3 ?_
   refine Olg (.agg (Box.cells a0)) zba ?_
   refine Oy (want:=true) hb3 ?_
   obtain ⟨r4,hr4,hM⟩:=zaj hM
   refine zau (bs:=[.agg (Box.cells a0)]) (by decide) rfl rfl ((ziN hr4).le (.k .nil)) ?_
   refine Oy (want:=true) hb3 ?_
   refine Oi (.b (r4==0)) ?_
   refine Pt (.b (r4==0)) hb3 ?_
   refine Oa (.b (r4==0)) ?_
   refine Ni ?_
   exact zah (r4==0) (.k .nil) ⟨(hS.keep [] rfl).up (by omega),hM⟩
  ·replace hM:=ifF hM hb3
   refine On (want:=true) hb3 ?_
   refine On (want:=true) hb3 ?_
   refine On (want:=true) hb3 ?_
   refine Pf (.b false) hb3 ?_
   refine Oa (.b false) ?_
   refine Ni ?_
   exact zah false (.k .nil) ⟨(hS.keep [] rfl).up (by omega),hM⟩
theorem zee {a0:Int} {a1:Int} {a2:Int} {r:Bool} (hM:zc6 a0 a1 a2=some r):zaF Try.prog 88 [.i a0,.i a1,.i a2] (.b r):=by
 refine zak mixed Try.func88 rfl (by decide) Try.ntmps88 (by simp) ?pure fun H0 g hf=>?_
 case pure=>exact .v _
 rw [zag]
 change wpA _ _ _ _ (Fr.of [(0,.i a0),(1,.i a1),(2,.i a2)]) H0 g
 have hS:=St.start hf
 refine Sq ?_
 refine Rg 1 ?_
 refine Oa (.b false) ?_
 refine Ni ?_
 refine Ws ?_
 refine zaS (J:=Bool) (fun j=>[(6,.b j)]) (fun j H' g'=>St (·<g) H0 [] H' g'/\zdL j=some r) ?_ ?_
 ·rintro v1 H g1 ⟨hS,hM⟩
  change wpA _ _ _ _ (Fr.of [(6,.b v1)]) _ _
  replace hS:St (·<g) H0 [] H g1:=hS
  replace hM:zdL v1=some r:=hM
  refine zaQ ?_
  refine zaU (x:=.b v1) (f:=fun r=>.b r) (.inr rfl) ?_ (.refl _) (Option.some.inj hM) hS
  exact (zas (zae (x:=.b v1) rfl))
 ·refine Rg 9 ?_
  refine Om (.i a1) ?_
  refine Om (.i a0) ?_
  refine Oi (.b (decide (a1<=a0))) ?_
  refine Om (.b (decide (a1<=a0))) ?_
  rcases bft (decide (a1<=a0)) with hb2 | hb2
  ·replace hM:=ifT hM hb2
   refine Oy (want:=true) hb2 ?_
   refine Om (.i a0) ?_
   refine Oy (want:=true) hb2 ?_
   refine Om (.i a2) ?_
   refine Oy (want:=true) hb2 ?_
   refine Oi (.b (decide (a0<=a2))) ?_
   refine Pt (.b (decide (a0<=a2))) hb2 ?_
   refine Oa (.b (decide (a0<=a2))) ?_
   refine Ni ?_
   exact zah (decide (a0<=a2)) (.k .nil) ⟨(hS.keep [] rfl).up (by omega),hM⟩
  ·replace hM:=ifF hM hb2
   refine On (want:=true) hb2 ?_
   refine On (want:=true) hb2 ?_
   refine On (want:=true) hb2 ?_
   refine Pf (.b false) hb2 ?_
   refine Oa (.b false) ?_
   refine Ni ?_
   exact zah false (.k .nil) ⟨(hS.keep [] rfl).up (by omega),hM⟩
theorem zhZ {n:Nat} {a0:List Int} {a1:Int} {a2:Int} {r:Bool} (hM:zga n a0 a1 a2=some r):zaF Try.prog 103 [.sl .no 1 (a0.map cI),.i a1,.i a2] (.b r):=by
 refine zak mixed Try.func103 rfl (by decide) Try.ntmps103 (by simp) ?pure fun H0 g hf=>?_
 case pure=>exact .v _
 rw [zag]
 change wpA _ _ _ _ (Fr.of [(0,.sl .no 1 (a0.map cI)),(1,.i a1),(2,.i a2)]) H0 g
 have hS:=St.start hf
 refine Sq ?_
 refine Rg 1 ?_
 refine Oa (.b false) ?_
 refine Ni ?_
 refine Ws ?_
 refine zaS (J:=Unit) (fun j=>[(0,.sl .no 1 (a0.map cI)),(1,.i a1)]) (fun j H' g'=>St (·<g) H0 [] H' g'/\zeH a0 a1=some r) ?_ ?_
 ·rintro _ H g1 ⟨hS,hM⟩
  change wpA _ _ _ _ (Fr.of [(0,.sl .no 1 (a0.map cI)),(1,.i a1)]) _ _
  replace hS:St (·<g) H0 [] H g1:=hS
  replace hM:zeH a0 a1=some r:=hM
  refine Sq ?_
  refine Rg 5 ?_
  refine Om (.sl .no 1 (a0.map cI)) ?_
  refine zbu (n:=a0.length) (by decide) rfl (List.length_map _) zax ?_
  refine Om (.i a1) ?_
  refine Oi (.b (decide ((a0.length:Int)<=a1))) ?_
  refine Oa (.b (decide ((a0.length:Int)<=a1))) ?_
  refine Ni ?_
  refine Ws ?_
  refine zaQ ?_
  refine zaU (x:=.b (decide ((a0.length:Int)<=a1))) (f:=fun r=>.b r) (.inr rfl) ?_ (.refl _) (Option.some.inj hM) hS
  exact (zas (zae (x:=.b (decide ((a0.length:Int)<=a1))) rfl))
 ·refine Sq ?_
  refine Rg 3 ?_
  refine Om (.sl .no 1 (a0.map cI)) ?_
  refine zbu (n:=a0.length) (by decide) rfl (List.length_map _) zax ?_
  refine Om (.i 0) ?_
  refine Ni ?_
  refine Ws ?_
  refine zay ?_
  refine zbU (V:=Int) (fun v=>[(0,.sl .no 1 (a0.map cI)),(1,.i a1),(2,.i a2),(9,.sl .no 1 (a0.map cI)),(10,.i (a0.length:Int)),(11,.i v)]) (fun v m2 H' g'=>St (·<g) H0 [] H' g'/\zbP a0 a1 a2 m2 v=some r) (n:=n) 0 (.k (.k (.k (.k (.k (.k .nil)))))) ⟨(hS.keep [] rfl).up (by omega),hM⟩ ?_
  rintro v1 m2 H g2 ⟨hS,hM⟩
  obtain _ | m2:=m2
  ·exact nomatch (show none=some _ from hM)
  change wpA _ _ _ _ (Fr.of [(0,.sl .no 1 (a0.map cI)),(1,.i a1),(2,.i a2),(9,.sl .no 1 (a0.map cI)),(10,.i (a0.length:Int)),(11,.i v1)]) _ _
  replace hS:St (·<g) H0 [] H g2:=hS
  replace hM:zdY a0 a1 a2 (zbP a0 a1 a2 m2) v1=some r:=hM
  refine Sq ?_
  refine Rg 1 ?_
  refine Oi (.b (decide (v1<(a0.length:Int)))) ?_
  refine Ni ?_
  refine Ws ?_
  refine Sq ?_
  rcases bft (decide (v1<(a0.length:Int))) with hb2 | hb2
  ·replace hM:=ifT hM hb2
   refine Ct hb2 ?_
   refine zaz ?_
   refine Ws ?_
   refine Sq ?_
   refine zay ?_
   refine Sq ?_
   refine Rg 5 ?_
   refine Om (.i v1) ?_
   obtain ⟨x3,hx3,hM⟩:=zaj hM
   refine zaW (xs:=a0) (f:=cI) (z:=v1) (u:=x3) (by decide) rfl rfl zaG hx3 ?_
   refine Olp (.i x3) zaf zav ?_
   refine Oa (.i v1) ?_
   refine Oa (.i x3) ?_
   refine Ni ?_
   refine Ws ?_
   refine zaS (J:=Bool) (fun j=>[(0,.sl .no 1 (a0.map cI)),(1,.i a1),(2,.i a2),(9,.sl .no 1 (a0.map cI)),(10,.i (a0.length:Int)),(11,.i v1),(32,.b j)]) (fun j H' g'=>St (·<g) H0 [] H' g'/\zcb (zbP a0 a1 a2 m2) v1 j=some r) ?_ ?_
   ·rintro v4 H g3 ⟨hS,hM⟩
    change wpA _ _ _ _ (Fr.of [(0,.sl .no 1 (a0.map cI)),(1,.i a1),(2,.i a2),(9,.sl .no 1 (a0.map cI)),(10,.i (a0.length:Int)),(11,.i v1),(32,.b v4)]) _ _
    replace hS:St (·<g) H0 [] H g3:=hS
    replace hM:zcb (zbP a0 a1 a2 m2) v1 v4=some r:=hM
    rcases bft v4 with hb5 | hb5
    ·replace hM:=ifT hM hb5
     refine Ct hb5 ?_
     refine Sq ?_
     refine Rg 1 ?_
     refine Oa (.b false) ?_
     refine Ni ?_
     refine Ws ?_
     refine zaQ ?_
     refine za1 ?_
     refine zan ?_
     refine zcj ?_
     refine za1 ?_
     refine zcF ?_
     refine zaU (x:=.b false) (f:=fun r=>.b r) (.inr rfl) ?_ (.refl _) (Option.some.inj hM) hS
     exact (zas (zae (x:=.b false) rfl))
    ·replace hM:=ifF hM hb5
     refine Cf hb5 ?_
     refine zaz ?_
     refine zal ?_
     refine Ws ?_
     refine Rg 2 ?_
     refine Oi (.i (w64 (v1+1))) ?_
     refine Om (.i (w64 (v1+1))) ?_
     refine Ni ?_
     exact za6 (w64 (v1+1)) (Nat.lt_succ_self _) (.k (.k (.k (.k (.k (.k .nil)))))) ⟨(hS.keep [] rfl).up (by omega),hM⟩
   ·refine Rg 17 ?_
    refine Om (.i x3) ?_
    refine Om (.i a2) ?_
    obtain ⟨r6,hr6,hM⟩:=zaj hM
    refine zau (bs:=[.i x3,.i 1,.i a2]) (by decide) rfl rfl ((zee hr6).le (.k (.k (.k .nil)))) ?_
    refine zdD (e:=r6) (by decide) rfl ?_
    refine Om (.b (!r6)) ?_
    rcases bft (!r6) with hb7 | hb7
    ·replace hM:=ifT hM hb7
     refine On (want:=false) hb7 ?_
     refine On (want:=false) hb7 ?_
     refine On (want:=false) hb7 ?_
     refine zaw (j:=7) (by decide) rfl ?_
     refine zaw (j:=7) (by decide) rfl ?_
     refine zaw (j:=7) (by decide) rfl ?_
     refine zaw (j:=7) (by decide) rfl ?_
     refine zaw (j:=7) (by decide) rfl ?_
     refine zaw (j:=7) (by decide) rfl ?_
     refine zaw (j:=7) (by decide) rfl ?_
     refine On (want:=false) hb7 ?_
     refine Pt (.b true) hb7 ?_
     refine Ni ?_
     exact zah true (.k (.k (.k (.k (.k (.k (.k .nil))))))) ⟨(hS.keep [] rfl).up (by omega),hM⟩
    ·replace hM:=ifF hM hb7
     refine Oy (want:=false) hb7 ?_
     refine Om (.i v1) ?_
     refine Oy (want:=false) hb7 ?_
     refine Oi (.b (decide (v1>0))) ?_
     refine Oy (want:=false) hb7 ?_
     refine Om (.b (decide (v1>0))) ?_
     rcases bft (decide (v1>0)) with hb8 | hb8
     ·replace hM:=ifT hM hb8
      refine Oy (want:=true) hb8 ?_
      refine Om (.i x3) ?_
      refine Oy (want:=true) hb8 ?_
      refine Om (.sl .no 1 (a0.map cI)) ?_
      refine Oy (want:=true) hb8 ?_
      refine Om (.i v1) ?_
      refine Oy (want:=true) hb8 ?_
      refine Oi (.i (w64 (v1-1))) ?_
      refine Oy (want:=true) hb8 ?_
      obtain ⟨x9,hx9,hM⟩:=zaj hM
      refine zaW (xs:=a0) (f:=cI) (z:=(w64 (v1-1))) (u:=x9) (by decide) rfl rfl zaG hx9 ?_
      refine Oy (want:=true) hb8 ?_
      refine Olp (.i x9) zaf zav ?_
      refine Oy (want:=true) hb8 ?_
      refine Oi (.b (decide (x3<=x9))) ?_
      refine Oy (want:=false) hb7 ?_
      refine Pt (.b (decide (x3<=x9))) hb8 ?_
      refine Pf (.b (decide (x3<=x9))) hb7 ?_
      refine Ni ?_
      exact zah (decide (x3<=x9)) (.k (.k (.k (.k (.k (.k (.k .nil))))))) ⟨(hS.keep [] rfl).up (by omega),hM⟩
     ·replace hM:=ifF hM hb8
      refine On (want:=true) hb8 ?_
      refine On (want:=true) hb8 ?_
      refine On (want:=true) hb8 ?_
      refine On (want:=true) hb8 ?_
      refine On (want:=true) hb8 ?_
      refine On (want:=true) hb8 ?_
      refine On (want:=true) hb8 ?_
      refine Oy (want:=false) hb7 ?_
      refine Pf (.b false) hb8 ?_
      refine Pf (.b false) hb7 ?_
      refine Ni ?_
      exact zah false (.k (.k (.k (.k (.k (.k (.k .nil))))))) ⟨(hS.keep [] rfl).up (by omega),hM⟩
  ·replace hM:=ifF hM hb2
   refine Cf hb2 ?_
   refine zbM ?_
   refine zat ?_
   refine zap ?_
   refine zaD ?_
   exact zah () (.k (.k .nil)) ⟨(hS.keep [] rfl).up (by omega),hM⟩
theorem ziO {n:Nat} {a0:Wheel} {r:Int} (hM:zfT n a0=some r):zaF Try.prog 68 [.agg (Wheel.cells a0)] (.i r):=by
 refine zak mixed Try.func68 rfl (by decide) Try.ntmps68 (by simp) ?pure fun H0 g hf=>?_
 case pure=>exact .v _
 rw [zag]
 change wpA _ _ _ _ (Fr.of [(0,.agg (Wheel.cells a0))]) H0 g
 have hS:=St.start hf
 refine Sq ?_
 refine Rg 2 ?_
 refine zcC (v:=.agg (Wheel.cells a0)) (cs:=(Wheel.cells a0)) hS (by decide) rfl rfl (by omega) fun H hS=>?_
 refine Oa (.i 0) ?_
 refine Ni ?_
 refine zbk (L':=[]) 0 1 hS rfl rfl rfl fun H hS=>?_
 refine Ws ?_
 refine Sq ?_
 refine zaS (J:=Bool) (fun j=>[(20,.b j)]) (fun j H' g'=>St (·<g) H0 [] H' g'/\zdq j=some r) ?_ ?_
 ·rintro v1 H g1 ⟨hS,hM⟩
  change wpA _ _ _ _ (Fr.of [(20,.b v1)]) _ _
  replace hS:St (·<g) H0 [] H g1:=hS
  replace hM:zdq v1=some r:=hM
  rcases bft v1 with hb2 | hb2
  ·replace hM:=ifT hM hb2
   refine Ct hb2 ?_
   refine Sq ?_
   refine Rg 1 ?_
   refine Oa (.i 10) ?_
   refine Ni ?_
   refine Ws ?_
   refine zaQ ?_
   refine zan ?_
   refine zaU (x:=.i 10) (f:=fun r=>.i r) (.inr rfl) ?_ (.refl _) (Option.some.inj hM) hS
   exact (zas (zae (x:=.i 10) rfl))
  ·replace hM:=ifF hM hb2
   refine Cf hb2 ?_
   refine zaz ?_
   refine Ws ?_
   refine Sq ?_
   refine Rg 1 ?_
   refine Oa (.i 0) ?_
   refine Ni ?_
   refine Ws ?_
   refine zaQ ?_
   refine zaU (x:=.i 0) (f:=fun r=>.i r) (.inr rfl) ?_ (.refl _) (Option.some.inj hM) hS
   exact (zas (zae (x:=.i 0) rfl))
 ·refine Rg 18 ?_
  refine Of ((Wheel.cells a0)) zdS ?_
  refine Olp (.i a0.Round) zaf zav ?_
  obtain ⟨r3,hr3,hM⟩:=zaj hM
  refine zau (bs:=[.i a0.Round,.i 1,.i 200]) (by decide) rfl rfl ((zee hr3).le (.k (.k (.k .nil)))) ?_
  refine zdD (e:=r3) (by decide) rfl ?_
  refine Om (.b (!r3)) ?_
  rcases bft (!r3) with hb4 | hb4
  ·replace hM:=ifT hM hb4
   refine On (want:=false) hb4 ?_
   refine On (want:=false) hb4 ?_
   refine On (want:=false) hb4 ?_
   refine On (want:=false) hb4 ?_
   refine On (want:=false) hb4 ?_
   refine On (want:=false) hb4 ?_
   refine Pt (.b true) hb4 ?_
   refine Om (.b true) ?_
   refine Og ?_
   refine Og ?_
   refine Og ?_
   refine Og ?_
   refine zct (v:=.b true) (e:=true) (by decide) rfl rfl rfl ?_
   refine Ni ?_
   exact zah true (.k .nil) ⟨(hS.keep [] rfl).up (by omega),hM⟩
  ·replace hM:=ifF hM hb4
   refine Oy (want:=false) hb4 ?_
   refine Of ((Wheel.cells a0)) zgC ?_
   refine Oy (want:=false) hb4 ?_
   refine Olp (.sl .no 1 (a0.Notches.map cI)) zaA zaO ?_
   refine Oy (want:=false) hb4 ?_
   refine Of ((Wheel.cells a0)) zdS ?_
   refine Oy (want:=false) hb4 ?_
   refine Olp (.i a0.Round) zaf zav ?_
   refine Oy (want:=false) hb4 ?_
   obtain ⟨r5,hr5,hM⟩:=zaj hM
   refine zau (bs:=[.sl .no 1 (a0.Notches.map cI),.i 12,.i a0.Round]) (by decide) rfl rfl ((zhZ hr5).le (.k (.k (.k .nil)))) ?_
   refine Oy (want:=false) hb4 ?_
   refine zdD (e:=r5) (by decide) rfl ?_
   refine Pf (.b (!r5)) hb4 ?_
   refine Om (.b (!r5)) ?_
   rcases bft (!r5) with hb6 | hb6
   ·replace hM:=ifT hM hb6
    refine On (want:=false) hb6 ?_
    refine On (want:=false) hb6 ?_
    refine On (want:=false) hb6 ?_
    refine On (want:=false) hb6 ?_
    refine Pt (.b true) hb6 ?_
    refine Ni ?_
    exact zah true (.k .nil) ⟨(hS.keep [] rfl).up (by omega),hM⟩
   ·replace hM:=ifF hM hb6
    refine Oy (want:=false) hb6 ?_
    refine Of ((Wheel.cells a0)) zcs ?_
    refine Oy (want:=false) hb6 ?_
    refine Olp (.sl .no 1 (a0.Coins.map cI)) zaA zaO ?_
    refine Oy (want:=false) hb6 ?_
    obtain ⟨r7,hr7,hM⟩:=zaj hM
    refine zau (bs:=[.sl .no 1 (a0.Coins.map cI),.i 4,.i 100]) (by decide) rfl rfl ((zhZ hr7).le (.k (.k (.k .nil)))) ?_
    refine Oy (want:=false) hb6 ?_
    refine zdD (e:=r7) (by decide) rfl ?_
    refine Pf (.b (!r7)) hb6 ?_
    refine Ni ?_
    exact zah (!r7) (.k .nil) ⟨(hS.keep [] rfl).up (by omega),hM⟩
theorem zep {a0:Int} {a1:Int} {a2:Int} {r:Bool} (hM:zcP a0 a1 a2=some r):zaF Try.prog 69 [.i a0,.i a1,.i a2] (.b r):=by
 refine zak mixed Try.func69 rfl (by decide) Try.ntmps69 (by simp) ?pure fun H0 g hf=>?_
 case pure=>exact .v _
 rw [zag]
 change wpA _ _ _ _ (Fr.of [(0,.i a0),(1,.i a1),(2,.i a2)]) H0 g
 have hS:=St.start hf
 refine Sq ?_
 refine Rg 1 ?_
 refine Oa (.b false) ?_
 refine Ni ?_
 refine Ws ?_
 refine zaS (J:=Bool) (fun j=>[(6,.b j)]) (fun j H' g'=>St (·<g) H0 [] H' g'/\zcU j=some r) ?_ ?_
 ·rintro v1 H g1 ⟨hS,hM⟩
  change wpA _ _ _ _ (Fr.of [(6,.b v1)]) _ _
  replace hS:St (·<g) H0 [] H g1:=hS
  replace hM:zcU v1=some r:=hM
  refine zaQ ?_
  refine zaU (x:=.b v1) (f:=fun r=>.b r) (.inr rfl) ?_ (.refl _) (Option.some.inj hM) hS
  exact (zas (zae (x:=.b v1) rfl))
 ·refine Rg 9 ?_
  refine Om (.i a1) ?_
  refine Om (.i a0) ?_
  refine Oi (.b (decide (a1<=a0))) ?_
  refine Om (.b (decide (a1<=a0))) ?_
  rcases bft (decide (a1<=a0)) with hb2 | hb2
  ·replace hM:=ifT hM hb2
   refine Oy (want:=true) hb2 ?_
   refine Om (.i a0) ?_
   refine Oy (want:=true) hb2 ?_
   refine Om (.i a2) ?_
   refine Oy (want:=true) hb2 ?_
   refine Oi (.b (decide (a0<=a2))) ?_
   refine Pt (.b (decide (a0<=a2))) hb2 ?_
   refine Oa (.b (decide (a0<=a2))) ?_
   refine Ni ?_
   exact zah (decide (a0<=a2)) (.k .nil) ⟨(hS.keep [] rfl).up (by omega),hM⟩
  ·replace hM:=ifF hM hb2
   refine On (want:=true) hb2 ?_
   refine On (want:=true) hb2 ?_
   refine On (want:=true) hb2 ?_
   refine Pf (.b false) hb2 ?_
   refine Oa (.b false) ?_
   refine Ni ?_
   exact zah false (.k .nil) ⟨(hS.keep [] rfl).up (by omega),hM⟩
theorem zha {S:Type} {Lo:S->BL} (hk:∀s s',zlE (Lo s) (Lo s')) (hnd:∀s,(ids (Lo s)).Nodup) (hin:∀s,InB In (Lo s)) {aF:Int->S->Option (Bool×S)} {f0:AV} (hF:∀s H,Has H (Lo s)->In H f0) (h0:cellsOf f0=some [f0]) (hf:∀{x0:Int} {s:S} {r:Bool×S},aF x0 s=some r->zqq Try.prog f0 [.i x0] (Lo s) (.b r.1) (Lo r.2)) {n:Nat} {a0:List Int} {st:S} {r:Int×S} (hM:zcR n aF a0 st=some r):zmt Try.prog 104 [.sl .no 1 (a0.map cI),f0] (Lo st) (.i r.1) (Lo r.2):=by
 have hnd0:∀s,(ids (Lo s)).Nodup:=fun s=>hnd s
 refine zfF mixed Try.func104 rfl (by decide) Try.ntmps104 (by simp) (hk _ _) (hnd st) ?pure ?cells fun H0 g hf_ hp=>?_
 case pure=>exact fun H _=>(show Go.AM.Pure _ from .v _).inH
 case cells=>exact hin _
 rw [zag]
 change wpA _ _ _ _ (Fr.of [(0,.sl .no 1 (a0.map cI)),(1,f0)]) H0 g
 have hS:=St.startH (L:=([]++Lo st)) hf_ (hnd st) hp
 replace hS:St (fun i=>i<g/\i∉ids (Lo st)) H0 ([]++Lo st) H0 g:=hS
 refine Sq ?_
 refine Rg 1 ?_
 refine Oa (.i 0) ?_
 refine Ni ?_
 refine Ws ?_
 refine zaS (J:=S) (fun j=>[]) (fun j H' g'=>St (fun i=>i<g/\i∉ids (Lo st)) H0 ([]++Lo j) H' g'/\zbQ j=some r) ?_ ?_
 ·rintro v1 H g1 ⟨hS,hM⟩
  change wpA _ _ _ _ (Fr.of []) _ _
  replace hS:St (fun i=>i<g/\i∉ids (Lo st)) H0 ([]++Lo v1) H g1:=hS
  replace hM:zbQ v1=some r:=hM
  refine Sq ?_
  refine Rg 1 ?_
  refine Oa (.i (-1)) ?_
  refine Ni ?_
  refine Ws ?_
  refine zaQ ?_
  refine zir (x:=.i (-1)) (f:=fun r=>.i r.1) (fd:=fun r=>(Lo r.2)) (.inr rfl) ?_ (.refl _) (Option.some.inj hM) hS 0 rfl
  exact (zas (zae (x:=.i (-1)) rfl))
 ·refine Sq ?_
  refine Rg 3 ?_
  refine Om (.sl .no 1 (a0.map cI)) ?_
  refine zbu (n:=a0.length) (by decide) rfl (List.length_map _) zax ?_
  refine Om (.i 0) ?_
  refine Ni ?_
  refine Ws ?_
  refine zay ?_
  refine zbU (V:=Int×S) (fun v=>[(0,.sl .no 1 (a0.map cI)),(1,f0),(7,.i (a0.length:Int)),(8,.i v.1)]) (fun v m3 H' g'=>St (fun i=>i<g/\i∉ids (Lo st)) H0 ([]++Lo v.2) H' g'/\zar a0 aF m3 v.1 v.2=some r) (n:=n) (0,st) (.k (.k (.k (.k .nil)))) ⟨(hS.keep [] rfl).up (by omega),hM⟩ ?_
  rintro ⟨v3,v4⟩ m3 H g3 ⟨hS,hM⟩
  obtain _ | m3:=m3
  ·exact nomatch (show none=some _ from hM)
  change wpA _ _ _ _ (Fr.of [(0,.sl .no 1 (a0.map cI)),(1,f0),(7,.i (a0.length:Int)),(8,.i v3)]) _ _
  replace hS:St (fun i=>i<g/\i∉ids (Lo st)) H0 ([]++Lo v4) H g3:=hS
  replace hM:za7 a0 aF (zar a0 aF m3) v3 v4=some r:=hM
  refine Sq ?_
  refine Rg 1 ?_
  refine Oi (.b (decide (v3<(a0.length:Int)))) ?_
  refine Ni ?_
  refine Ws ?_
  refine Sq ?_
  rcases bft (decide (v3<(a0.length:Int))) with hb5 | hb5
  ·replace hM:=ifT hM hb5
   refine Ct hb5 ?_
   refine zaz ?_
   refine Ws ?_
   refine Sq ?_
   refine zay ?_
   refine Sq ?_
   refine Rg 2 ?_
   refine Om (.i v3) ?_
   refine Oa (.i v3) ?_
   refine Ni ?_
   refine Ws ?_
   refine Sq ?_
   refine Rg 6 ?_
   refine Om (f0) ?_
   refine Om (.sl .no 1 (a0.map cI)) ?_
   refine Om (.i v3) ?_
   obtain ⟨x6,hx6,hM⟩:=zaj hM
   refine zaW (xs:=a0) (f:=cI) (z:=v3) (u:=x6) (by decide) rfl rfl zaG hx6 ?_
   refine Olp (.i x6) zaf zav ?_
   obtain ⟨r7,hr7,hM⟩:=zaj hM
   replace hS:St (fun i=>i<g/\i∉ids (Lo st)) H0 ([]++Lo v4) _ _:=hS
   refine znU (bs:=[.i x6]) (.inl rfl) hS (by decide) rfl rfl ((hf hr7).le (.k .nil)) (hk _ _).ids (by omega) fun H hS=>?_
   refine Ni ?_
   refine Ws ?_
   rcases bft r7.1 with hb8 | hb8
   ·replace hM:=ifT hM hb8
    refine Ct hb8 ?_
    refine Sq ?_
    refine Rg 2 ?_
    refine Om (.i v3) ?_
    refine Oa (.i v3) ?_
    refine Ni ?_
    refine Ws ?_
    refine zaQ ?_
    refine za1 ?_
    refine zan ?_
    refine zcj ?_
    refine za1 ?_
    refine zcF ?_
    refine zir (x:=.i v3) (f:=fun r=>.i r.1) (fd:=fun r=>(Lo r.2)) (.inr rfl) ?_ (.refl _) (Option.some.inj hM) hS 0 rfl
    exact (zas (zae (x:=.i v3) rfl))
   ·replace hM:=ifF hM hb8
    refine Cf hb8 ?_
    refine zaz ?_
    refine zal ?_
    refine Ws ?_
    refine Rg 2 ?_
    refine Oi (.i (w64 (v3+1))) ?_
    refine Om (.i (w64 (v3+1))) ?_
    refine Ni ?_
    exact za6 (w64 (v3+1),r7.2) (Nat.lt_succ_self _) (.k (.k (.k (.k .nil)))) ⟨(hS.keep [] rfl).up (by omega),hM⟩
  ·replace hM:=ifF hM hb5
   refine Cf hb5 ?_
   refine zbM ?_
   refine zat ?_
   refine zap ?_
   refine zaD ?_
   exact zah v4 .nil ⟨(hS.keep [] rfl).up (by omega),hM⟩
theorem zef {S:Type} {Lo:S->BL} (hk:∀s s',zlE (Lo s) (Lo s')) (hnd:∀s,(ids (Lo s)).Nodup) (hin:∀s,InB In (Lo s)) {aF:Int->S->Option (Bool×S)} {f0:AV} (hF:∀s H,Has H (Lo s)->In H f0) (h0:cellsOf f0=some [f0]) (hf:∀{x0:Int} {s:S} {r:Bool×S},aF x0 s=some r->zqq Try.prog f0 [.i x0] (Lo s) (.b r.1) (Lo r.2)) {n:Nat} {a0:List Int} {st:S} {r:Bool×S} (hM:zbq n aF a0 st=some r):zmt Try.prog 70 [.sl .no 1 (a0.map cI),f0] (Lo st) (.b r.1) (Lo r.2):=by
 have hnd0:∀s,(ids (Lo s)).Nodup:=fun s=>hnd s
 refine zfF mixed Try.func70 rfl (by decide) Try.ntmps70 (by simp) (hk _ _) (hnd st) ?pure ?cells fun H0 g hf_ hp=>?_
 case pure=>exact fun H _=>(show Go.AM.Pure _ from .v _).inH
 case cells=>exact hin _
 rw [zag]
 change wpA _ _ _ _ (Fr.of [(0,.sl .no 1 (a0.map cI)),(1,f0)]) H0 g
 have hS:=St.startH (L:=([]++Lo st)) hf_ (hnd st) hp
 replace hS:St (fun i=>i<g/\i∉ids (Lo st)) H0 ([]++Lo st) H0 g:=hS
 refine Sq ?_
 refine Rg 1 ?_
 refine Oa (.b false) ?_
 refine Ni ?_
 refine Ws ?_
 refine Sq ?_
 refine Rg 5 ?_
 refine Om (.sl .no 1 (a0.map cI)) ?_
 refine Om (f0) ?_
 obtain ⟨r1,hr1,hM⟩:=zaj hM
 replace hS:St (fun i=>i<g/\i∉ids (Lo st)) H0 ([]++Lo st) _ _:=hS
 refine zoH (bs:=[.sl .no 1 (a0.map cI),f0]) (.inl rfl) hS (by decide) rfl rfl ((zha (Lo:=Lo)  hk hnd0 hin (aF:=aF) hF h0 hf hr1).le (.k (.k .nil))) (hk _ _).ids (by omega) fun H hS=>?_
 refine Oi (.b (decide (r1.1≥0))) ?_
 refine Oa (.b (decide (r1.1≥0))) ?_
 refine Ni ?_
 refine zff [(4,.b (decide (r1.1≥0)))] (.k .nil) ?_
 refine zaQ ?_
 refine zir (x:=.b (decide (r1.1≥0))) (f:=fun r=>.b r.1) (fd:=fun r=>(Lo r.2)) (.inr rfl) ?_ (.refl _) (Option.some.inj hM) hS 0 rfl
 exact (zas (zae (x:=.b (decide (r1.1≥0))) rfl))
theorem ziP {a0:Int} {r:Bool} (hM:zdk a0=some r):zaF Try.prog 71 [.i a0] (.b r):=by
 refine zak mixed Try.func71 rfl (by decide) Try.ntmps71 (by simp) ?pure fun H0 g hf=>?_
 case pure=>exact .v _
 rw [zag]
 change wpA _ _ _ _ (Fr.of [(0,.i a0)]) H0 g
 have hS:=St.start hf
 refine Sq ?_
 refine Rg 1 ?_
 refine Oa (.b false) ?_
 refine Ni ?_
 refine Ws ?_
 refine Sq ?_
 refine Rg 4 ?_
 refine Om (.i a0) ?_
 obtain ⟨r1,hr1,hM⟩:=zaj hM
 refine zau (bs:=[.i a0,.i 0,.i 12]) (by decide) rfl rfl ((zep hr1).le (.k (.k (.k .nil)))) ?_
 refine zdD (e:=r1) (by decide) rfl ?_
 refine Oa (.b (!r1)) ?_
 refine Ni ?_
 refine zff [(2,.b (!r1))] (.k .nil) ?_
 refine zaQ ?_
 refine zaU (x:=.b (!r1)) (f:=fun r=>.b r) (.inr rfl) ?_ (.refl _) (Option.some.inj hM) hS
 exact (zas (zae (x:=.b (!r1)) rfl))
theorem zkD {n:Nat} {a0:Box} {r:Int} (hM:zfz n a0=some r):zaF Try.prog 33 [.agg (Box.cells a0)] (.i r):=by
 refine zak mixed Try.func33 rfl (by decide) Try.ntmps33 (by simp) ?pure fun H0 g hf=>?_
 case pure=>exact .v _
 rw [zag]
 change wpA _ _ _ _ (Fr.of [(0,.agg (Box.cells a0))]) H0 g
 have hS:=St.start hf
 refine Sq ?_
 refine Rg 2 ?_
 refine zcC (v:=.agg (Box.cells a0)) (cs:=(Box.cells a0)) hS (by decide) rfl rfl (by omega) fun H hS=>?_
 refine Oa (.i 0) ?_
 refine Ni ?_
 refine zbk (L':=[]) 0 1 hS rfl rfl rfl fun H hS=>?_
 refine Ws ?_
 refine Sq ?_
 refine zaS (J:=Bool) (fun j=>[(1,.ep (Box.cells a0)),(23,.b j)]) (fun j H' g'=>St (·<g) H0 [] H' g'/\zcG n a0 j=some r) ?_ ?_
 ·rintro v1 H g1 ⟨hS,hM⟩
  change wpA _ _ _ _ (Fr.of [(1,.ep (Box.cells a0)),(23,.b v1)]) _ _
  replace hS:St (·<g) H0 [] H g1:=hS
  replace hM:zcG n a0 v1=some r:=hM
  rcases bft v1 with hb2 | hb2
  ·replace hM:=ifT hM hb2
   refine Ct hb2 ?_
   refine Sq ?_
   refine Rg 1 ?_
   refine Oa (.i 50) ?_
   refine Ni ?_
   refine Ws ?_
   refine zaQ ?_
   refine zan ?_
   refine zaU (x:=.i 50) (f:=fun r=>.i r) (.inr rfl) ?_ (.refl _) (Option.some.inj hM) hS
   exact (zas (zae (x:=.i 50) rfl))
  ·replace hM:=ifF hM hb2
   refine Cf hb2 ?_
   refine zaz ?_
   refine Ws ?_
   refine Sq ?_
   refine Rg 1 ?_
   refine Oa (.i 0) ?_
   refine Ni ?_
   refine Ws ?_
   refine zaS (J:=Unit) (fun j=>[(1,.ep (Box.cells a0)),(3,.i 0)]) (fun j H' g'=>St (·<g) H0 [] H' g'/\zfw n a0=some r) ?_ ?_
   ·rintro _ H g2 ⟨hS,hM⟩
    change wpA _ _ _ _ (Fr.of [(1,.ep (Box.cells a0)),(3,.i 0)]) _ _
    replace hS:St (·<g) H0 [] H g2:=hS
    replace hM:zfw n a0=some r:=hM
    refine zaS (J:=Int) (fun j=>[(3,.i j)]) (fun j H' g'=>St (·<g) H0 [] H' g'/\zel j=some r) ?_ ?_
    ·rintro v3 H g3 ⟨hS,hM⟩
     change wpA _ _ _ _ (Fr.of [(3,.i v3)]) _ _
     replace hS:St (·<g) H0 [] H g3:=hS
     replace hM:zel v3=some r:=hM
     refine Sq ?_
     refine Sq ?_
     refine Rg 2 ?_
     refine Om (.i v3) ?_
     refine Oi (.b (decide (v3>12))) ?_
     refine Ni ?_
     refine Ws ?_
     rcases bft (decide (v3>12)) with hb4 | hb4
     ·replace hM:=ifT hM hb4
      refine Ct hb4 ?_
      refine Sq ?_
      refine Rg 1 ?_
      refine Oa (.i 50) ?_
      refine Ni ?_
      refine Ws ?_
      refine zaQ ?_
      refine zan ?_
      refine zaU (x:=.i 50) (f:=fun r=>.i r) (.inr rfl) ?_ (.refl _) (Option.some.inj hM) hS
      exact (zas (zae (x:=.i 50) rfl))
     ·replace hM:=ifF hM hb4
      refine Cf hb4 ?_
      refine zaz ?_
      refine Ws ?_
      refine Sq ?_
      refine Rg 1 ?_
      refine Oa (.i 0) ?_
      refine Ni ?_
      refine Ws ?_
      refine zaQ ?_
      refine zaU (x:=.i 0) (f:=fun r=>.i r) (.inr rfl) ?_ (.refl _) (Option.some.inj hM) hS
      exact (zas (zae (x:=.i 0) rfl))
    ·refine Sq ?_
     refine Rg 4 ?_
     refine Of ((Box.cells a0)) zcN ?_
     refine Olp (.sl .no 1 (a0.Found.map cI)) zaA zaO ?_
     refine zbu (n:=a0.Found.length) (by decide) rfl (List.length_map _) zax ?_
     refine Om (.i 0) ?_
     refine Ni ?_
     refine Ws ?_
     refine zay ?_
     refine zbU (V:=Int×Int) (fun v=>[(1,.ep (Box.cells a0)),(3,.i v.1),(47,.sl .no 1 (a0.Found.map cI)),(48,.i (a0.Found.length:Int)),(49,.i v.2)]) (fun v m4 H' g'=>St (·<g) H0 [] H' g'/\zbz a0 m4 v.1 v.2=some r) (n:=n) (0,0) (.k (.k (.k (.k (.k .nil))))) ⟨(hS.keep [] rfl).up (by omega),hM⟩ ?_
     rintro ⟨v5,v6⟩ m4 H g4 ⟨hS,hM⟩
     obtain _ | m4:=m4
     ·exact nomatch (show none=some _ from hM)
     change wpA _ _ _ _ (Fr.of [(1,.ep (Box.cells a0)),(3,.i v5),(47,.sl .no 1 (a0.Found.map cI)),(48,.i (a0.Found.length:Int)),(49,.i v6)]) _ _
     replace hS:St (·<g) H0 [] H g4:=hS
     replace hM:zdy a0 (zbz a0 m4) v5 v6=some r:=hM
     refine Sq ?_
     refine Rg 1 ?_
     refine Oi (.b (decide (v6<(a0.Found.length:Int)))) ?_
     refine Ni ?_
     refine Ws ?_
     refine Sq ?_
     rcases bft (decide (v6<(a0.Found.length:Int))) with hb7 | hb7
     ·replace hM:=ifT hM hb7
      refine Ct hb7 ?_
      refine zaz ?_
      refine Ws ?_
      refine Sq ?_
      refine zay ?_
      refine Sq ?_
      refine Rg 5 ?_
      refine Om (.i v6) ?_
      obtain ⟨x8,hx8,hM⟩:=zaj hM
      refine zaW (xs:=a0.Found) (f:=cI) (z:=v6) (u:=x8) (by decide) rfl rfl zaG hx8 ?_
      refine Olp (.i x8) zaf zav ?_
      refine Oa (.i v6) ?_
      refine Oa (.i x8) ?_
      refine Ni ?_
      refine Ws ?_
      refine Sq ?_
      refine Sq ?_
      refine Rg 7 ?_
      refine Of ((Box.cells a0)) zgD ?_
      refine Olp (.sl .no 1 (a0.Marked.map cI)) zaA zaO ?_
      refine Om (.i v6) ?_
      obtain ⟨x9,hx9,hM⟩:=zaj hM
      refine zaW (xs:=a0.Marked) (f:=cI) (z:=v6) (u:=x9) (by decide) rfl rfl zaG hx9 ?_
      refine Olp (.i x9) zaf zav ?_
      refine Om (.i x8) ?_
      refine Oi (.b (decide (x9>x8))) ?_
      refine Ni ?_
      refine Ws ?_
      rcases bft (decide (x9>x8)) with hb10 | hb10
      ·replace hM:=ifT hM hb10
       refine Ct hb10 ?_
       refine Sq ?_
       refine Rg 1 ?_
       refine Oa (.i 50) ?_
       refine Ni ?_
       refine Ws ?_
       refine zaQ ?_
       refine zan ?_
       refine za1 ?_
       refine zan ?_
       refine zcj ?_
       refine za1 ?_
       refine zcF ?_
       refine zaU (x:=.i 50) (f:=fun r=>.i r) (.inr rfl) ?_ (.refl _) (Option.some.inj hM) hS
       exact (zas (zae (x:=.i 50) rfl))
      ·replace hM:=ifF hM hb10
       refine Cf hb10 ?_
       refine zaz ?_
       refine Ws ?_
       refine Rg 10 ?_
       refine Om (.i v5) ?_
       refine Om (.i x8) ?_
       refine Of ((Box.cells a0)) zfo ?_
       refine Olp (.sl .no 1 (a0.Slugs.map cI)) zaA zaO ?_
       refine Om (.i v6) ?_
       obtain ⟨x11,hx11,hM⟩:=zaj hM
       refine zaW (xs:=a0.Slugs) (f:=cI) (z:=v6) (u:=x11) (by decide) rfl rfl zaG hx11 ?_
       refine Olp (.i x11) zaf zav ?_
       refine Oi (.i (w64 (x8+x11))) ?_
       refine Oi (.i (w64 (v5+(w64 (x8+x11))))) ?_
       refine Oa (.i (w64 (v5+(w64 (x8+x11))))) ?_
       refine Ni ?_
       refine zal ?_
       refine Ws ?_
       refine Rg 2 ?_
       refine Oi (.i (w64 (v6+1))) ?_
       refine Om (.i (w64 (v6+1))) ?_
       refine Ni ?_
       exact za6 (w64 (v5+(w64 (x8+x11))),w64 (v6+1)) (Nat.lt_succ_self _) (.k (.k (.k (.k (.k .nil))))) ⟨(hS.keep [] rfl).up (by omega),hM⟩
     ·replace hM:=ifF hM hb7
      refine Cf hb7 ?_
      refine zbM ?_
      refine zat ?_
      refine zap ?_
      refine zaD ?_
      exact zah v5 (.k .nil) ⟨(hS.keep [] rfl).up (by omega),hM⟩
   ·refine Sq ?_
    refine Rg 8 ?_
    refine Of ((Box.cells a0)) zcN ?_
    refine Olp (.sl .no 1 (a0.Found.map cI)) zaA zaO ?_
    refine Of ((Box.cells a0)) zgD ?_
    refine Olp (.sl .no 1 (a0.Marked.map cI)) zaA zaO ?_
    refine Of ((Box.cells a0)) zfo ?_
    refine Olp (.sl .no 1 (a0.Slugs.map cI)) zaA zaO ?_
    refine zb9 (cs:=[.sl .no 1 (a0.Found.map cI),.sl .no 1 (a0.Marked.map cI),.sl .no 1 (a0.Slugs.map cI)]) (by decide) zpV zsC rfl ?_
    refine Om (.i 0) ?_
    refine Ni ?_
    refine Ws ?_
    refine zay ?_
    refine zbU (V:=Int) (fun v=>[(1,.ep (Box.cells a0)),(3,.i 0),(30,.agg [.sl .no 1 (a0.Found.map cI),.sl .no 1 (a0.Marked.map cI),.sl .no 1 (a0.Slugs.map cI)]),(31,.i v)]) (fun v m5 H' g'=>St (·<g) H0 [] H' g'/\zaN n a0 m5 v=some r) (n:=n) 0 (.k (.k (.k (.k .nil)))) ⟨(hS.keep [] rfl).up (by omega),hM⟩ ?_
    rintro v12 m5 H g5 ⟨hS,hM⟩
    obtain _ | m5:=m5
    ·exact nomatch (show none=some _ from hM)
    change wpA _ _ _ _ (Fr.of [(1,.ep (Box.cells a0)),(3,.i 0),(30,.agg [.sl .no 1 (a0.Found.map cI),.sl .no 1 (a0.Marked.map cI),.sl .no 1 (a0.Slugs.map cI)]),(31,.i v12)]) _ _
    replace hS:St (·<g) H0 [] H g5:=hS
    replace hM:zeI n a0 (zaN n a0 m5) v12=some r:=hM
    refine Sq ?_
    refine Rg 1 ?_
    refine Oi (.b (decide (v12<3))) ?_
    refine Ni ?_
    refine Ws ?_
    refine Sq ?_
    rcases bft (decide (v12<3)) with hb13 | hb13
    ·replace hM:=ifT hM hb13
     refine Ct hb13 ?_
     refine zaz ?_
     refine Ws ?_
     refine Sq ?_
     refine zay ?_
     refine Sq ?_
     refine Rg 2 ?_
     obtain ⟨x14,hx14,hM⟩:=zaj hM
     refine zoE (v:=.sl .no 1 (x14.map cI)) (cs:=[.sl .no 1 (a0.Found.map cI),.sl .no 1 (a0.Marked.map cI),.sl .no 1 (a0.Slugs.map cI)]) (z:=v12) (by decide) rfl rfl zro (zg5 hx14).1 (zre hx14) (zsA (xs:=([a0.Found,a0.Marked,a0.Slugs]:List (List Int))) (f:=cI) zaA zaO hx14) ?_
     refine Oa (.sl .no 1 (x14.map cI)) ?_
     refine Ni ?_
     refine Ws ?_
     refine zaS (J:=Bool) (fun j=>[(1,.ep (Box.cells a0)),(3,.i 0),(30,.agg [.sl .no 1 (a0.Found.map cI),.sl .no 1 (a0.Marked.map cI),.sl .no 1 (a0.Slugs.map cI)]),(31,.i v12),(44,.b j)]) (fun j H' g'=>St (·<g) H0 [] H' g'/\zdl (zaN n a0 m5) v12 j=some r) ?_ ?_
     ·rintro v15 H g6 ⟨hS,hM⟩
      change wpA _ _ _ _ (Fr.of [(1,.ep (Box.cells a0)),(3,.i 0),(30,.agg [.sl .no 1 (a0.Found.map cI),.sl .no 1 (a0.Marked.map cI),.sl .no 1 (a0.Slugs.map cI)]),(31,.i v12),(44,.b v15)]) _ _
      replace hS:St (·<g) H0 [] H g6:=hS
      replace hM:zdl (zaN n a0 m5) v12 v15=some r:=hM
      rcases bft v15 with hb16 | hb16
      ·replace hM:=ifT hM hb16
       refine Ct hb16 ?_
       refine Sq ?_
       refine Rg 1 ?_
       refine Oa (.i 50) ?_
       refine Ni ?_
       refine Ws ?_
       refine zaQ ?_
       refine za1 ?_
       refine zan ?_
       refine zcj ?_
       refine za1 ?_
       refine zcF ?_
       refine zaU (x:=.i 50) (f:=fun r=>.i r) (.inr rfl) ?_ (.refl _) (Option.some.inj hM) hS
       exact (zas (zae (x:=.i 50) rfl))
      ·replace hM:=ifF hM hb16
       refine Cf hb16 ?_
       refine zaz ?_
       refine zal ?_
       refine Ws ?_
       refine Rg 2 ?_
       refine Oi (.i (w64 (v12+1))) ?_
       refine Om (.i (w64 (v12+1))) ?_
       refine Ni ?_
       exact za6 (w64 (v12+1)) (Nat.lt_succ_self _) (.k (.k (.k (.k .nil)))) ⟨(hS.keep [] rfl).up (by omega),hM⟩
     ·refine Rg 11 ?_
      refine Om (.sl .no 1 (x14.map cI)) ?_
      refine zbu (n:=x14.length) (by decide) rfl (List.length_map _) zax ?_
      refine Of ((Box.cells a0)) zbK ?_
      refine Of ((Box.cells a0)) zcs ?_
      refine Olp (.sl .no 1 (a0.Wheel.Coins.map cI)) zaA zaO ?_
      refine zbu (n:=a0.Wheel.Coins.length) (by decide) rfl (List.length_map _) zax ?_
      refine Oi (.b ((x14.length:Int) != (a0.Wheel.Coins.length:Int))) ?_
      refine Om (.b ((x14.length:Int) != (a0.Wheel.Coins.length:Int))) ?_
      rcases bft ((x14.length:Int) != (a0.Wheel.Coins.length:Int)) with hb17 | hb17
      ·replace hM:=ifT hM hb17
       refine On (want:=false) hb17 ?_
       refine On (want:=false) hb17 ?_
       refine Pt (.b true) hb17 ?_
       refine Ni ?_
       exact zah true (.k (.k (.k (.k (.k .nil))))) ⟨(hS.keep [] rfl).up (by omega),hM⟩
      ·replace hM:=ifF hM hb17
       refine Oy (want:=false) hb17 ?_
       refine Om (.sl .no 1 (x14.map cI)) ?_
       refine Oy (want:=false) hb17 ?_
       obtain ⟨r18,hr18,hM⟩:=zaj hM
       refine zau (bs:=[.sl .no 1 (x14.map cI),.fn (.func 71) [] []]) (by decide) rfl rfl (zju ((zef (Lo:=(fun (_:Unit)=>[]))  (fun _ _=>zoJ) (fun _=>List.nodup_nil) (fun _=>zlU) (aF:=(fun (x0:Int) (_:Unit)=>(zdk x0).map fun y=>(y,()))) (fun _ H hH=>(.fn _ _ _ zhV zhV)) rfl (fun h=>zoN (ziP (zkp h))) hr18).le (.k (.k .nil)))) ?_
       refine Pf (.b r18.1) hb17 ?_
       refine Ni ?_
       exact zah r18.1 (.k (.k (.k (.k (.k .nil))))) ⟨(hS.keep [] rfl).up (by omega),hM⟩
    ·replace hM:=ifF hM hb13
     refine Cf hb13 ?_
     refine zbM ?_
     refine zat ?_
     refine zap ?_
     refine zaD ?_
     exact zah () (.k (.k .nil)) ⟨(hS.keep [] rfl).up (by omega),hM⟩
 ·refine Rg 16 ?_
  refine Of ((Box.cells a0)) zbK ?_
  refine Olg (.agg (Wheel.cells a0.Wheel)) zb0 ?_
  obtain ⟨r19,hr19,hM⟩:=zaj hM
  refine zau (bs:=[.agg (Wheel.cells a0.Wheel)]) (by decide) rfl rfl ((ziO hr19).le (.k .nil)) ?_
  refine Oi (.b (r19 != 0)) ?_
  refine Om (.b (r19 != 0)) ?_
  rcases bft (r19 != 0) with hb20 | hb20
  ·replace hM:=ifT hM hb20
   refine On (want:=false) hb20 ?_
   refine On (want:=false) hb20 ?_
   refine On (want:=false) hb20 ?_
   refine On (want:=false) hb20 ?_
   refine Pt (.b true) hb20 ?_
   refine Om (.b true) ?_
   refine Og ?_
   refine Og ?_
   refine Og ?_
   refine Og ?_
   refine zct (v:=.b true) (e:=true) (by decide) rfl rfl rfl ?_
   refine Ni ?_
   exact zah true (.k (.k .nil)) ⟨(hS.keep [] rfl).up (by omega),hM⟩
  ·replace hM:=ifF hM hb20
   refine Oy (want:=false) hb20 ?_
   refine Of ((Box.cells a0)) zfZ ?_
   refine Oy (want:=false) hb20 ?_
   refine Olp (.i a0.Plays) zaf zav ?_
   refine Oy (want:=false) hb20 ?_
   obtain ⟨r21,hr21,hM⟩:=zaj hM
   refine zau (bs:=[.i a0.Plays,.i 0,.i 9999]) (by decide) rfl rfl ((zep hr21).le (.k (.k (.k .nil)))) ?_
   refine Oy (want:=false) hb20 ?_
   refine zdD (e:=r21) (by decide) rfl ?_
   refine Pf (.b (!r21)) hb20 ?_
   refine Om (.b (!r21)) ?_
   rcases bft (!r21) with hb22 | hb22
   ·replace hM:=ifT hM hb22
    refine On (want:=false) hb22 ?_
    refine On (want:=false) hb22 ?_
    refine On (want:=false) hb22 ?_
    refine On (want:=false) hb22 ?_
    refine Pt (.b true) hb22 ?_
    refine Ni ?_
    exact zah true (.k (.k .nil)) ⟨(hS.keep [] rfl).up (by omega),hM⟩
   ·replace hM:=ifF hM hb22
    refine Oy (want:=false) hb22 ?_
    refine Of ((Box.cells a0)) ziG ?_
    refine Oy (want:=false) hb22 ?_
    refine Olp (.i a0.Skips) zaf zav ?_
    refine Oy (want:=false) hb22 ?_
    obtain ⟨r23,hr23,hM⟩:=zaj hM
    refine zau (bs:=[.i a0.Skips,.i 0,.i 9]) (by decide) rfl rfl ((zep hr23).le (.k (.k (.k .nil)))) ?_
    refine Oy (want:=false) hb22 ?_
    refine zdD (e:=r23) (by decide) rfl ?_
    refine Pf (.b (!r23)) hb22 ?_
    refine Ni ?_
    exact zah (!r23) (.k (.k .nil)) ⟨(hS.keep [] rfl).up (by omega),hM⟩
theorem zfc {n:Nat} {a0:Box} {r:(Option Box_)×Int} (hM:zdM n a0=some r):zaF Try.prog 60 [.agg (Box.cells a0)] (.tup [pA Box_.cells r.1,.i r.2]):=by
 refine zak mixed Try.func60 rfl (by decide) Try.ntmps60 (by simp) ?pure fun H0 g hf=>?_
 case pure=>exact .tup _ (zac (znX (fun x=>(zac (.v _) (zac (.sl _ _ (zaE (fun x=>(zac (.v _) zaK)))) (zac (.sl _ _ (zaE (fun x=>(zac (.v _) zaK)))) (zac (.sl _ _ (zaE (fun x=>(zac (.v _) zaK)))) (zac (.sl _ _ (zaE (fun x=>(zac (.v _) zaK)))) (zac (.sl _ _ (zaE (fun x=>(zac (.v _) zaK)))) (zac (.v _) (zac (.v _) zaK))))))))) _) (zac (.v _) zaK))
 rw [zag]
 change wpA _ _ _ _ (Fr.of [(0,.agg (Box.cells a0))]) H0 g
 have hS:=St.start hf
 refine Sq ?_
 refine Rg 3 ?_
 refine zcC (v:=.agg (Box.cells a0)) (cs:=(Box.cells a0)) hS (by decide) rfl rfl (by omega) fun H hS=>?_
 refine Oa (pA Box_.cells (none:Option Box_)) ?_
 refine Oa (.i 0) ?_
 refine Ni ?_
 refine zbk (L':=[]) 0 1 hS rfl rfl rfl fun H hS=>?_
 refine Ws ?_
 refine Sq ?_
 refine Sq ?_
 refine Rg 3 ?_
 refine Olg (.agg (Box.cells a0)) zba ?_
 obtain ⟨r1,hr1,hM⟩:=zaj hM
 refine zau (bs:=[.agg (Box.cells a0)]) (by decide) rfl rfl ((zkD hr1).le (.k .nil)) ?_
 refine Oa (.i r1) ?_
 refine Ni ?_
 refine Ws ?_
 refine Sq ?_
 refine Rg 2 ?_
 refine Om (.i r1) ?_
 refine Oi (.b (r1 != 0)) ?_
 refine Ni ?_
 refine Ws ?_
 rcases bft (r1 != 0) with hb2 | hb2
 ·replace hM:=ifT hM hb2
  refine Ct hb2 ?_
  refine Sq ?_
  refine Rg 3 ?_
  refine Om (.i r1) ?_
  refine Oa (pA Box_.cells (none:Option Box_)) ?_
  refine Oa (.i r1) ?_
  refine Ni ?_
  refine Ws ?_
  refine zaQ ?_
  refine zan ?_
  refine zaU (x:=.tup [pA Box_.cells (none:Option Box_),.i r1]) (f:=fun r=>.tup [pA Box_.cells r.1,.i r.2]) (.inr rfl) ?_ (.refl _) (Option.some.inj hM) hS
  exact (zc8 (zae (x:=pA Box_.cells (none:Option Box_)) rfl) (zae (x:=.i r1) rfl))
 ·replace hM:=ifF hM hb2
  refine Cf hb2 ?_
  refine zaz ?_
  refine Ws ?_
  refine Sq ?_
  refine Rg 5 ?_
  refine Olg (.agg (Box.cells a0)) zba ?_
  refine zb9 (cs:=(Box.cells a0)) (by decide) zpW zsE rfl ?_
  refine zcC (v:=.agg (Box.cells a0)) (cs:=(Box.cells a0)) hS (by decide) rfl rfl (by omega) fun H hS=>?_
  refine Oa (.ptr (g+3+3+2+2) 0) ?_
  refine Oa (.i 0) ?_
  refine Ni ?_
  refine zbk (L':=[]) 0 2 hS rfl rfl rfl fun H hS=>?_
  refine Ws ?_
  refine zaQ ?_
  refine zaU (x:=.tup [.ep (Box.cells a0),.i 0]) (f:=fun r=>.tup [pA Box_.cells r.1,.i r.2]) (.inr rfl) ?_ (.tupL (.k (.k .nil))) (Option.some.inj hM) hS
  exact (zc8 (zae (x:=.ep (Box.cells a0)) rfl) (zae (x:=.i 0) rfl))
theorem zn6:zfL Try.prog 155=some (zad zaJ):=by kernel_rfl
theorem zn7 (x:PointT_):Le (.agg (PointT_.cells x)) (.v (zad x)):=zxH [x.Stand.Place,x.Stand.Credit,x.in_.c0,x.in_.c1,x.in_.c2,x.in_.c3,x.bought]
theorem zt3 {κ ν:Type} (kv:κ->Value) (cv:ν->Value) (m:List (κ×ν)):(mpw kv cv m).length=m.length:=List.length_map _
theorem zt4 {κ ν:Type} {kv:κ->Value} {cv:ν->Value} {m:List (κ×ν)} {e:Nat} {p:Value×Value} (h:(mpw kv cv m)[e]?=some p):∃x,m[e]?=some x/\p=(kv x.1,cv x.2):=by
 unfold mpw at h
 rw [List.getElem?_map] at h
 obtain ⟨x,hx,rfl⟩:=Option.map_eq_some_iff.1 h
 exact ⟨x,hx,rfl⟩
theorem zh0 {M:List (PointT_×Step_)} {al:Bag_} (hM:zis M=true) {j:Nat}:zpS Try.prog 98 [.mp j,.agg (Bag_.cells al)] [(j,.obj none (zaB (mpw zad zam M)))] (fun g v M'=>∃(l:List PointT_) (jn:Nat),l.Perm (M.map (·.1))/\g<=jn/\v=.mp jn/\M'=[(jn,.obj none (zaB (mpw kvI zad (l.foldl (za5 al) [])))),(j,.obj none (zaB (mpw zad zam M)))]):=by
 refine zlx mixed Try.func98 rfl (by decide) Try.ntmps98 (by simp) (fun g=>⟨.mp (max g (j+1)),_,⟨M.map (·.1),max g (j+1),.refl _,by omega,rfl,rfl⟩,by simp [ids];omega,fun i hi=>by simp [ids] at hi ⊢;omega⟩) fun H0 g hf hp=>?_
 have hall:∀x,x∈M->okI x.1.bought=true:=fun x hx=>List.all_eq_true.1 (Bool.and_eq_true_iff.1 hM).1 x hx
 rw [zag]
 change wpA _ _ _ _ (Fr.of [(0,.mp j),(1,.agg (Bag_.cells al))]) H0 g
 have hS:=St.startH hf (by simp [ids]) hp
 have hjg:j<g:=(hS.has _ (List.mem_singleton.2 rfl)).2.1
 generalize hOe:(fun i=>i<g/\i∉ids [(j,.obj none (zaB (mpw zad zam M)))])=O at hS
 refine Sq ?_
 refine Rg 2 ?_
 refine zcC (v:=.agg (Bag_.cells al)) (cs:=(Bag_.cells al)) hS (by decide) rfl rfl (by omega) fun H hS=>?_
 refine Oa (.v (.map none)) ?_
 refine Ni ?_
 refine Ws ?_
 refine Sq ?_
 refine Rg 2 ?_
 refine zlw (kv:=kvI) (cv:=zad) hS (by decide) ziB (by omega) fun H hS=>?_
 refine Oa (.mp (g+2+0)) ?_
 refine Ni ?_
 refine Ws ?_
 refine Sq ?_
 refine Sq ?_
 refine Rg 2 ?_
 refine Om (.mp j) ?_
 refine ztV (m:=mpw zad zam M) 2 hS (by decide) rfl rfl zfY (by omega) fun a H hS=>?_
 refine Ni ?_
 refine Ws ?_
 refine zay ?_
 refine zbU (V:=List Nat) (fun v=>[(3,.ptr (g+0) 0),(5,.mp (g+2+0)),(11,.it (g+2+2+1) j a)]) (fun v k H' g'=>St O H0 [(g+2+2+1,.obj none (zlf a (mpw zad zam M).length v.toArray)),(g+2+0,.obj none (zaB (mpw kvI zad ((v.map fun e=>(M.getD e (zaJ,za4)).1).foldl (za5 al) [])))),(g+0,.cells (Bag_.cells al)),(j,.obj none (zaB (mpw zad zam M)))] H' g'/\g+2+2+2<=g'/\SeenOk M.length v/\k=M.length-v.length) (n:=M.length) [] (.k (.k (.k .nil))) ⟨hS,Nat.le_refl _,SeenOk.nil _,rfl⟩ ?_
 rintro q k H g2 ⟨hS,hg2,hq,hk⟩
 change wpA _ _ _ _ (Fr.of [(3,.ptr (g+0) 0),(5,.mp (g+2+0)),(11,.it (g+2+2+1) j a)]) _ _
 generalize hE:((q.map fun e=>(M.getD e (zaJ,za4)).1).foldl (za5 al) [])=E at hS
 have hEok:∀y,okI y=true->mok okI E y=true:=by
  rw [←hE]
  exact zsJ hall
 refine Sq ?_
 refine Rg 2 ?_
 refine zvs 0 3 hS (by decide) rfl rfl rfl ?_ ?_
 ·intro hall2
  rw [zt3] at hall2
  refine Ox (.b false) ?_
  refine Ni ?_
  refine Ws ?_
  refine Sq ?_
  refine zgR (e:=false) rfl rfl ?_
  refine zbM ?_
  refine zat ?_
  refine zap ?_
  refine zaD ?_
  refine Ws ?_
  refine Sq ?_
  refine Rg 2 ?_
  refine Om (.mp (g+2+0)) ?_
  refine Oa (.mp (g+2+0)) ?_
  refine Ni ?_
  refine Ws ?_
  refine zaQ ?_
  have hlp:(q.map fun e=>(M.getD e (zaJ,za4)).1).Perm (M.map (·.1)):=by
   have h1:=(hq.perm hall2).map (fun e=>(M.getD e (zaJ,za4)).1)
   have h2:(List.range M.length).map (fun e=>(M.getD e (zaJ,za4)).1)=((List.range M.length).map fun e=>M.getD e (zaJ,za4)).map (·.1):=by rw [List.map_map];rfl
   rw [h2,zl4] at h1
   exact h1
  have hS2:=hS.keep (L':=[(g+2+0,.obj none (zaB (mpw kvI zad E))),(j,.obj none (zaB (mpw zad zam M)))]) [false,true,false,true] rfl
  subst hE
  refine ⟨.inr rfl,.mp (g+2+0),_,_,⟨_,g+2+0,hlp,by omega,rfl,rfl⟩,⟨_,zas (zae (x:=.mp (g+2+0)) rfl),.refl _⟩,fun H hH=>.mp _ none _ (hH _ (List.mem_cons_self ..)),?_,fun i hi=>(hS.old i (hOe▸hi)).2,fun p hp=>(hS2.has p hp).2.2,hS.fr,by omega,hS2.nd,fun i hi=>?_,fun p hp=>?_⟩
  ·intro p cs hp e
   simp only [List.mem_cons,List.not_mem_nil,or_false] at hp
   rcases hp with rfl | rfl<;>cases e
  ·simp only [ids,List.map_cons,List.map_nil,List.mem_cons,List.not_mem_nil,or_false] at hi ⊢
   omega
  ·obtain rfl:=List.mem_singleton.1 hp
   exact ⟨_,hS2.get (n:=1) rfl,rfl,fun hn=>absurd (by simp [ids]) hn⟩
 ·intro e p H hp hs hS
  obtain ⟨x,hx,rfl⟩:=zt4 hp
  have hlt:=(List.getElem?_eq_some_iff.1 hx).1
  have hxb:=hall x (List.mem_of_getElem? hx)
  replace hS:St O H0 [(g+2+2+1,.obj none (zlf a (mpw zad zam M).length (q.toArray.push e))),(g+2+0,.obj none (zaB (mpw kvI zad E))),(g+0,.cells (Bag_.cells al)),(j,.obj none (zaB (mpw zad zam M)))] H g2:=hS
  refine Ox (.b true) ?_
  refine Ni ?_
  refine Ws ?_
  refine Sq ?_
  refine zkk (e:=true) rfl rfl ?_
  refine zaz ?_
  refine Ws ?_
  refine zay ?_
  refine Sq ?_
  refine Rg 4 ?_
  refine ztW (p:=(zad x.1,zam x.2)) 0 3 hS (by decide) rfl rfl rfl hp ?_
  refine zp4 (v:=.v (zad x.1)) (v':=.agg (PointT_.cells x.1)) (by decide) rfl rfl (zn7 x.1) ?_
  refine zck hS (by decide) zeA (by omega) fun H hS=>?_
  refine za0 (v:=.agg (PointT_.cells x.1)) (ns:=(PointT_.cells x.1)) (L':=[(g2+2+2,.cells (PointT_.cells x.1)),(g+2+2+1,.obj none (zlf a (mpw zad zam M).length (q.toArray.push e))),(g+2+0,.obj none (zaB (mpw kvI zad E))),(g+0,.cells (Bag_.cells al)),(j,.obj none (zaB (mpw zad zam M)))]) 0 hS rfl rfl .no rfl rfl ziC nlb rfl fun H hS=>?_
  refine Ni ?_
  refine Ws ?_
  refine Sq ?_
  refine Rg 10 ?_
  refine Om (.mp (g+2+0)) ?_
  refine zaP (by decide) zhK rfl ?_
  refine zaX (v:=.i x.1.bought) 0 hS (by decide) rfl rfl .no (po zaf zav) ?_
  refine zks (kv:=kvI) (ok:=okI) (cv:=zad) (z:=zaJ) (M:=E) (k:=x.1.bought) (u:=(zgM zaJ E x.1.bought)) (v':=.agg [.i (zgM zaJ E x.1.bought).Stand.Place,.i (zgM zaJ E x.1.bought).Stand.Credit,.i (zgM zaJ E x.1.bought).in_.c0,.i (zgM zaJ E x.1.bought).in_.c1,.i (zgM zaJ E x.1.bought).in_.c2,.i (zgM zaJ E x.1.bought).in_.c3,.i (zgM zaJ E x.1.bought).bought]) 2 zt2 hS (by decide) rfl rfl rfl ziB zn6 (by unfold zgu;rw [if_pos (hEok _ hxb)]) (zn7 _) ?_
  generalize hO2:(zgM zaJ E x.1.bought)=o
  refine Om (.tup [.agg (PointT_.cells o),.b (zcm E x.1.bought)]) ?_
  refine Ox (.agg (PointT_.cells o)) ?_
  refine Ox (.b (zcm E x.1.bought)) ?_
  refine zck hS (by decide) zeA (by omega) fun H hS=>?_
  refine za0 (v:=.agg (PointT_.cells o)) (ns:=(PointT_.cells o)) (L':=[(g2+2+4+7,.cells (PointT_.cells o)),(g2+2+2,.cells (PointT_.cells x.1)),(g+2+2+1,.obj none (zlf a (mpw zad zam M).length (q.toArray.push e))),(g+2+0,.obj none (zaB (mpw kvI zad E))),(g+0,.cells (Bag_.cells al)),(j,.obj none (zaB (mpw zad zam M)))]) 0 hS rfl rfl .no rfl rfl ziC nlb rfl fun H hS=>?_
  refine Oa (.b (zcm E x.1.bought)) ?_
  refine Ni ?_
  refine Ws ?_
  refine zaS (J:=Bool) (fun b=>[(3,.ptr (g+0) 0),(5,.mp (g+2+0)),(6,.ptr (g2+2+2) 0),(11,.it (g+2+2+1) j a),(57,.b b)]) (fun b H' g'=>St O H0 [(g2+2+4+7,.cells (PointT_.cells o)),(g2+2+2,.cells (PointT_.cells x.1)),(g+2+2+1,.obj none (zlf a (mpw zad zam M).length (q.toArray.push e))),(g+2+0,.obj none (zaB (mpw kvI zad E))),(g+0,.cells (Bag_.cells al)),(j,.obj none (zaB (mpw zad zam M)))] H' g'/\g+2+2+2<=g'/\b=zko al E x.1) ?_ ?_
  rotate_left
  ·have hD:∀b,b=(zk7 x.1.in_ al&&(!zcm E x.1.bought || zeY x.1 o))->b=zko al E x.1:=fun b h=>by rw [h,←hO2];rfl
   refine Rg 35 ?_
   refine zaP (by decide) ze1 rfl ?_
   refine zaX (v:=.agg (Bag_.cells x.1.in_)) 1 hS (by decide) rfl rfl .no (pg zdR) ?_
   refine zaX (v:=.agg (Bag_.cells al)) 4 hS (by decide) rfl rfl .no (pg zdR) ?_
   refine zzH (cs:=(Bag_.cells x.1.in_)) (ds:=(Bag_.cells al)) (e:=zk7 x.1.in_ al) (by decide) rfl rfl zpX rfl ?_
   refine Om (.b (zk7 x.1.in_ al)) ?_
   rcases bft (zk7 x.1.in_ al) with h1 | h1
   rotate_left
   ·refine On (want:=true) h1 ?_
    refine On (want:=true) h1 ?_
    refine On (want:=true) h1 ?_
    refine zaw (j:=7) (want:=false) (by decide) rfl ?_
    refine zaw (j:=7) (want:=false) (by decide) rfl ?_
    refine zaw (j:=7) (want:=false) (by decide) rfl ?_
    refine zaw (j:=7) (want:=false) (by decide) rfl ?_
    refine zaw (j:=7) (want:=false) (by decide) rfl ?_
    refine zaw (j:=7) (want:=false) (by decide) rfl ?_
    refine zaw (j:=7) (want:=false) (by decide) rfl ?_
    refine On (want:=true) h1 ?_
    refine On (want:=true) h1 ?_
    refine zaw (j:=16) (want:=false) (by decide) rfl ?_
    refine zaw (j:=16) (want:=false) (by decide) rfl ?_
    refine zaw (j:=16) (want:=false) (by decide) rfl ?_
    refine zaw (j:=16) (want:=false) (by decide) rfl ?_
    refine zaw (j:=16) (want:=false) (by decide) rfl ?_
    refine zaw (j:=16) (want:=false) (by decide) rfl ?_
    refine zaw (j:=16) (want:=false) (by decide) rfl ?_
    refine zaw (j:=16) (want:=false) (by decide) rfl ?_
    refine zaw (j:=24) (want:=true) (by decide) rfl ?_
    refine zaw (j:=24) (want:=true) (by decide) rfl ?_
    refine zaw (j:=24) (want:=true) (by decide) rfl ?_
    refine zaw (j:=24) (want:=true) (by decide) rfl ?_
    refine zaw (j:=24) (want:=true) (by decide) rfl ?_
    refine zaw (j:=24) (want:=true) (by decide) rfl ?_
    refine zaw (j:=24) (want:=true) (by decide) rfl ?_
    refine zaw (j:=16) (want:=false) (by decide) rfl ?_
    refine On (want:=true) h1 ?_
    refine Pf (.b false) h1 ?_
    refine Ni ?_
    exact zah false (.k (.k (.k (.k (.k .nil))))) ⟨hS.up (by omega),by omega,hD _ (by simp [zeY,h1])⟩
   refine Oy (want:=true) h1 ?_
   refine Om (.b (zcm E x.1.bought)) ?_
   refine Oy (want:=true) h1 ?_
   refine zdD (by decide) rfl ?_
   refine Oy (want:=true) h1 ?_
   refine Om (.b (!zcm E x.1.bought)) ?_
   rcases bft (!zcm E x.1.bought) with h2 | h2
   ·refine On (want:=false) h2 ?_
    refine On (want:=false) h2 ?_
    refine On (want:=false) h2 ?_
    refine On (want:=false) h2 ?_
    refine On (want:=false) h2 ?_
    refine On (want:=false) h2 ?_
    refine On (want:=false) h2 ?_
    refine Oy (want:=true) h1 ?_
    refine Pt (.b true) h2 ?_
    refine Oy (want:=true) h1 ?_
    refine Om (.b true) ?_
    refine Og ?_
    refine Og ?_
    refine Og ?_
    refine Og ?_
    refine Og ?_
    refine Og ?_
    refine Og ?_
    refine Og ?_
    refine zaw (j:=24) (want:=true) (by decide) rfl ?_
    refine zaw (j:=24) (want:=true) (by decide) rfl ?_
    refine zaw (j:=24) (want:=true) (by decide) rfl ?_
    refine zaw (j:=24) (want:=true) (by decide) rfl ?_
    refine zaw (j:=24) (want:=true) (by decide) rfl ?_
    refine zaw (j:=24) (want:=true) (by decide) rfl ?_
    refine zaw (j:=24) (want:=true) (by decide) rfl ?_
    refine Og ?_
    refine Oy (want:=true) h1 ?_
    refine zct (v:=.b true) (e:=true) (by decide) rfl rfl rfl ?_
    refine Pt (.b true) h1 ?_
    refine Ni ?_
    exact zah true (.k (.k (.k (.k (.k .nil))))) ⟨hS.up (by omega),by omega,hD _ (by simp [zeY,h1,h2])⟩
   refine Oy (want:=false) h2 ?_
   refine zaP (by decide) zci rfl ?_
   refine Oy (want:=false) h2 ?_
   refine zaP (by decide) zdp rfl ?_
   refine Oy (want:=false) h2 ?_
   refine zaX (v:=.i x.1.Stand.Place) 1 hS (by decide) rfl rfl .no (po zaf zav) ?_
   refine Oy (want:=false) h2 ?_
   refine zaP (by decide) zci rfl ?_
   refine Oy (want:=false) h2 ?_
   refine zaP (by decide) zdp rfl ?_
   refine Oy (want:=false) h2 ?_
   refine zaX (v:=.i o.Stand.Place) 0 hS (by decide) rfl rfl .no (po zaf zav) ?_
   refine Oy (want:=false) h2 ?_
   refine Oi (.b (decide (x.1.Stand.Place<o.Stand.Place))) ?_
   refine Oy (want:=true) h1 ?_
   refine Pf (.b (decide (x.1.Stand.Place<o.Stand.Place))) h2 ?_
   refine Oy (want:=true) h1 ?_
   refine Om (.b (decide (x.1.Stand.Place<o.Stand.Place))) ?_
   rcases bft (decide (x.1.Stand.Place<o.Stand.Place)) with h3 | h3
   ·refine On (want:=false) h3 ?_
    refine On (want:=false) h3 ?_
    refine On (want:=false) h3 ?_
    refine On (want:=false) h3 ?_
    refine On (want:=false) h3 ?_
    refine On (want:=false) h3 ?_
    refine On (want:=false) h3 ?_
    refine On (want:=false) h3 ?_
    refine zaw (j:=24) (want:=true) (by decide) rfl ?_
    refine zaw (j:=24) (want:=true) (by decide) rfl ?_
    refine zaw (j:=24) (want:=true) (by decide) rfl ?_
    refine zaw (j:=24) (want:=true) (by decide) rfl ?_
    refine zaw (j:=24) (want:=true) (by decide) rfl ?_
    refine zaw (j:=24) (want:=true) (by decide) rfl ?_
    refine zaw (j:=24) (want:=true) (by decide) rfl ?_
    refine On (want:=false) h3 ?_
    refine Oy (want:=true) h1 ?_
    refine Pt (.b true) h3 ?_
    refine Pt (.b true) h1 ?_
    refine Ni ?_
    exact zah true (.k (.k (.k (.k (.k .nil))))) ⟨hS.up (by omega),by omega,hD _ (by simp [zeY,h1,h2,of_decide_eq_true h3])⟩
   refine Oy (want:=false) h3 ?_
   refine zaP (by decide) zci rfl ?_
   refine Oy (want:=false) h3 ?_
   refine zaP (by decide) zdp rfl ?_
   refine Oy (want:=false) h3 ?_
   refine zaX (v:=.i x.1.Stand.Place) 1 hS (by decide) rfl rfl .no (po zaf zav) ?_
   refine Oy (want:=false) h3 ?_
   refine zaP (by decide) zci rfl ?_
   refine Oy (want:=false) h3 ?_
   refine zaP (by decide) zdp rfl ?_
   refine Oy (want:=false) h3 ?_
   refine zaX (v:=.i o.Stand.Place) 0 hS (by decide) rfl rfl .no (po zaf zav) ?_
   refine Oy (want:=false) h3 ?_
   refine Oi (.b (x.1.Stand.Place==o.Stand.Place)) ?_
   refine Oy (want:=false) h3 ?_
   refine Om (.b (x.1.Stand.Place==o.Stand.Place)) ?_
   rcases bft (x.1.Stand.Place==o.Stand.Place) with h4 | h4
   ·refine Oy (want:=true) h4 ?_
    refine zaP (by decide) zci rfl ?_
    refine Oy (want:=true) h4 ?_
    refine zaP (by decide) zbS rfl ?_
    refine Oy (want:=true) h4 ?_
    refine zaX (v:=.i x.1.Stand.Credit) 1 hS (by decide) rfl rfl .no (po zaf zav) ?_
    refine Oy (want:=true) h4 ?_
    refine zaP (by decide) zci rfl ?_
    refine Oy (want:=true) h4 ?_
    refine zaP (by decide) zbS rfl ?_
    refine Oy (want:=true) h4 ?_
    refine zaX (v:=.i o.Stand.Credit) 0 hS (by decide) rfl rfl .no (po zaf zav) ?_
    refine Oy (want:=true) h4 ?_
    refine Oi (.b (decide (x.1.Stand.Credit<o.Stand.Credit))) ?_
    refine Oy (want:=false) h3 ?_
    refine Pt (.b (decide (x.1.Stand.Credit<o.Stand.Credit))) h4 ?_
    refine Oy (want:=true) h1 ?_
    refine Pf (.b (decide (x.1.Stand.Credit<o.Stand.Credit))) h3 ?_
    refine Pt (.b (decide (x.1.Stand.Credit<o.Stand.Credit))) h1 ?_
    refine Ni ?_
    exact zah (decide (x.1.Stand.Credit<o.Stand.Credit)) (.k (.k (.k (.k (.k .nil))))) ⟨hS.up (by omega),by omega,hD _ (by unfold zeY;rw [h1,h2,h3,h4];simp)⟩
   refine On (want:=true) h4 ?_
   refine On (want:=true) h4 ?_
   refine On (want:=true) h4 ?_
   refine On (want:=true) h4 ?_
   refine On (want:=true) h4 ?_
   refine On (want:=true) h4 ?_
   refine On (want:=true) h4 ?_
   refine Oy (want:=false) h3 ?_
   refine Pf (.b false) h4 ?_
   refine Oy (want:=true) h1 ?_
   refine Pf (.b false) h3 ?_
   refine Pt (.b false) h1 ?_
   refine Ni ?_
   exact zah false (.k (.k (.k (.k (.k .nil))))) ⟨hS.up (by omega),by omega,hD _ (by unfold zeY;rw [h1,h2,h3,h4];simp)⟩
  rintro b H g3 ⟨hS,hg3,hb⟩
  change wpA _ _ _ _ (Fr.of [(3,.ptr (g+0) 0),(5,.mp (g+2+0)),(6,.ptr (g2+2+2) 0),(11,.it (g+2+2+1) j a),(57,.b b)]) _ _
  have hq':=hq.push hlt hs
  have hle:=hq'.le
  rw [List.length_append,List.length_singleton] at hle
  have hx2:(M.getD e (zaJ,za4)).1=x.1:=by simp [List.getD_eq_getElem?_getD,hx]
  rcases bft b with hbb | hbb
  ·refine Ct hbb ?_
   refine Rg 5 ?_
   refine Om (.mp (g+2+0)) ?_
   refine zaP (by decide) zhK rfl ?_
   refine zaX (v:=.i x.1.bought) 1 hS (by decide) rfl rfl .no (po zaf zav) ?_
   refine zaX (v:=.agg (PointT_.cells x.1)) 1 hS (by decide) rfl rfl .no (pg zfn) ?_
   refine zjv (kv:=kvI) (ok:=okI) (cv:=zad) (z0:=zaJ) (M:=E) (k:=x.1.bought) (v:=x.1) (M':=zg9 E x.1.bought x.1) (L':=[(g2+2+4+7,.cells (PointT_.cells o)),(g2+2+2,.cells (PointT_.cells x.1)),(g+2+2+1,.obj none (zlf a (mpw zad zam M).length (q.toArray.push e))),(g+2+0,.obj none (zaB (mpw kvI zad (zg9 E x.1.bought x.1)))),(g+0,.cells (Bag_.cells al)),(j,.obj none (zaB (mpw zad zam M)))]) 3 zt2 (.inl rfl) hS rfl rfl rfl rfl ziB zn6 (by unfold zkj;rw [if_pos (hEok _ hxb)]) rfl fun H hS=>?_
   refine Ni ?_
   have hg4:g+2+2+2<=g3+5:=by omega
   have hEE:(((q++[e]).map fun e=>(M.getD e (zaJ,za4)).1).foldl (za5 al) [])=zg9 E x.1.bought x.1:=by rw [List.map_append,List.foldl_append,hE];simp only [List.map_cons,List.map_nil,List.foldl_cons,List.foldl_nil,hx2,za5];rw [←hb,hbb];simp
   refine zal ?_
   refine za6 (q++[e]) (m:=M.length-(q++[e]).length) (by rw [List.length_append,List.length_singleton];omega) (.k (.k (.k .nil))) ⟨?_,hg4,hq',rfl⟩
   rw [hEE]
   have hS:=hS.keep (L':=[(g+2+2+1,.obj none (zlf a (mpw zad zam M).length (q.toArray.push e))),(g+2+0,.obj none (zaB (mpw kvI zad (zg9 E x.1.bought x.1)))),(g+0,.cells (Bag_.cells al)),(j,.obj none (zaB (mpw zad zam M)))]) [false,false,true,true,true,true] rfl
   rw [List.push_toArray] at hS
   exact hS.up (by omega)
  ·refine Cf hbb ?_
   refine zaz ?_
   have hg4:g+2+2+2<=g3:=by omega
   have hEE:(((q++[e]).map fun e=>(M.getD e (zaJ,za4)).1).foldl (za5 al) [])=E:=by rw [List.map_append,List.foldl_append,hE];simp only [List.map_cons,List.map_nil,List.foldl_cons,List.foldl_nil,hx2,za5];rw [←hb,hbb];simp
   refine zal ?_
   refine za6 (q++[e]) (m:=M.length-(q++[e]).length) (by rw [List.length_append,List.length_singleton];omega) (.k (.k (.k .nil))) ⟨?_,hg4,hq',rfl⟩
   rw [hEE]
   have hS:=hS.keep (L':=[(g+2+2+1,.obj none (zlf a (mpw zad zam M).length (q.toArray.push e))),(g+2+0,.obj none (zaB (mpw kvI zad E))),(g+0,.cells (Bag_.cells al)),(j,.obj none (zaB (mpw zad zam M)))]) [false,false,true,true,true,true] rfl
   rw [List.push_toArray] at hS
   exact hS.up (by omega)
theorem zgf {n:Nat} {a0:Bag_} {r:Int} (hM:zdm n a0=some r):zaF Try.prog 130 [.agg (Bag_.cells a0)] (.i r):=by
 refine zak mixed Try.func130 rfl (by decide) Try.ntmps130 (by simp) ?pure fun H0 g hf=>?_
 case pure=>exact .v _
 rw [zag]
 change wpA _ _ _ _ (Fr.of [(0,.agg (Bag_.cells a0))]) H0 g
 have hS:=St.start hf
 refine Sq ?_
 refine Rg 2 ?_
 refine zcC (v:=.agg (Bag_.cells a0)) (cs:=(Bag_.cells a0)) hS (by decide) rfl rfl (by omega) fun H hS=>?_
 refine Oa (.i 0) ?_
 refine Ni ?_
 refine zbk (L':=[]) 0 1 hS rfl rfl rfl fun H hS=>?_
 refine Ws ?_
 refine Sq ?_
 refine Rg 1 ?_
 refine Oa (.i 0) ?_
 refine Ni ?_
 refine Ws ?_
 refine zaS (J:=Int) (fun j=>[(3,.i j)]) (fun j H' g'=>St (·<g) H0 [] H' g'/\zdb j=some r) ?_ ?_
 ·rintro v1 H g1 ⟨hS,hM⟩
  change wpA _ _ _ _ (Fr.of [(3,.i v1)]) _ _
  replace hS:St (·<g) H0 [] H g1:=hS
  replace hM:zdb v1=some r:=hM
  refine Sq ?_
  refine Rg 2 ?_
  refine Om (.i v1) ?_
  refine Oa (.i v1) ?_
  refine Ni ?_
  refine Ws ?_
  refine zaQ ?_
  refine zaU (x:=.i v1) (f:=fun r=>.i r) (.inr rfl) ?_ (.refl _) (Option.some.inj hM) hS
  exact (zas (zae (x:=.i v1) rfl))
 ·refine Sq ?_
  refine Rg 2 ?_
  refine Olg (.agg (Bag_.cells a0)) zdR ?_
  refine Om (.i 0) ?_
  refine Ni ?_
  refine Ws ?_
  refine zay ?_
  refine zbU (V:=Int×Int) (fun v=>[(3,.i v.1),(6,.agg (Bag_.cells a0)),(7,.i v.2)]) (fun v m2 H' g'=>St (·<g) H0 [] H' g'/\zbd a0 m2 v.1 v.2=some r) (n:=n) (0,0) (.k (.k (.k .nil))) ⟨(hS.keep [] rfl).up (by omega),hM⟩ ?_
  rintro ⟨v2,v3⟩ m2 H g2 ⟨hS,hM⟩
  obtain _ | m2:=m2
  ·exact nomatch (show none=some _ from hM)
  change wpA _ _ _ _ (Fr.of [(3,.i v2),(6,.agg (Bag_.cells a0)),(7,.i v3)]) _ _
  replace hS:St (·<g) H0 [] H g2:=hS
  replace hM:zcI a0 (zbd a0 m2) v2 v3=some r:=hM
  refine Sq ?_
  refine Rg 1 ?_
  refine Oi (.b (decide (v3<4))) ?_
  refine Ni ?_
  refine Ws ?_
  refine Sq ?_
  rcases bft (decide (v3<4)) with hb4 | hb4
  ·replace hM:=ifT hM hb4
   refine Ct hb4 ?_
   refine zaz ?_
   refine Ws ?_
   refine Sq ?_
   refine zay ?_
   refine Sq ?_
   refine Rg 2 ?_
   obtain ⟨x5,hx5,hM⟩:=zaj hM
   refine zoE (v:=.i x5) (cs:=(Bag_.cells a0)) (z:=v3) (by decide) rfl rfl zrq (zg5 hx5).1 (zre hx5) (zsx (xs:=([a0.c0,a0.c1,a0.c2,a0.c3]:List Int)) zaf zav rfl hx5) ?_
   refine Oa (.i x5) ?_
   refine Ni ?_
   refine Ws ?_
   refine Rg 4 ?_
   refine Om (.i v2) ?_
   refine Om (.i x5) ?_
   refine Oi (.i (w64 (v2+x5))) ?_
   refine Oa (.i (w64 (v2+x5))) ?_
   refine Ni ?_
   refine zal ?_
   refine Ws ?_
   refine Rg 2 ?_
   refine Oi (.i (w64 (v3+1))) ?_
   refine Om (.i (w64 (v3+1))) ?_
   refine Ni ?_
   exact za6 (w64 (v2+x5),w64 (v3+1)) (Nat.lt_succ_self _) (.k (.k (.k .nil))) ⟨(hS.keep [] rfl).up (by omega),hM⟩
  ·replace hM:=ifF hM hb4
   refine Cf hb4 ?_
   refine zbM ?_
   refine zat ?_
   refine zap ?_
   refine zaD ?_
   exact zah v2 (.k .nil) ⟨(hS.keep [] rfl).up (by omega),hM⟩
abbrev zmd (al:Bag_) (x:PointT_) (a s xb nx j q:Nat) (pre:List AV) (S:zit):BL:=[quB PointT_.cells q pre S.2,(a,.cells (Bag_.cells al)),(s,.cells [.mp j]),(xb,.cells (PointT_.cells x)),(nx,.cells [quV 7 q pre S.2]),(j,.obj none (zaB (mpw zad zam S.1)))]
theorem zrD {al:Bag_} {x:PointT_} {a s xb nx j q:Nat} {pre:List AV} {S:zit} (hpre:∀c,c∈pre->Go.AM.Pure c):InB In (zmd al x a s xb nx j q pre S):=fun p cs hp e c hc H hH=>by
 have hq:H q=some (.cells (pre++(S.2.map PointT_.cells).flatten)):=hH (quB PointT_.cells q pre S.2) (by simp)
 have hj:H j=some (.obj none (zaB (mpw zad zam S.1))):=hH (j,_) (by simp)
 simp only [List.mem_cons,List.not_mem_nil,or_false] at hp
 rcases hp with rfl | rfl | rfl | rfl | rfl | rfl
 ·obtain rfl:pre++(S.2.map PointT_.cells).flatten=cs:=by injection e
  rcases List.mem_append.1 hc with hc | hc
  ·exact (hpre c hc).inH
  ·exact (zrA (fun x=>(zac (.v _) (zac (.v _) (zac (.v _) (zac (.v _) (zac (.v _) (zac (.v _) (zac (.v _) zaK)))))))) _ c hc).inH
 ·obtain rfl:(Bag_.cells al)=cs:=by injection e
  exact ((show ∀c,c∈(Bag_.cells al)->Go.AM.Pure c from zac (.v _) (zac (.v _) (zac (.v _) (zac (.v _) zaK)))) c hc).inH
 ·obtain rfl:[AV.mp j]=cs:=by injection e
  obtain rfl:c=AV.mp j:=by simpa using hc
  exact .mp j none _ hj
 ·obtain rfl:(PointT_.cells x)=cs:=by injection e
  exact ((show ∀c,c∈(PointT_.cells x)->Go.AM.Pure c from zac (.v _) (zac (.v _) (zac (.v _) (zac (.v _) (zac (.v _) (zac (.v _) (zac (.v _) zaK))))))) c hc).inH
 ·obtain rfl:[quV 7 q pre S.2]=cs:=by injection e
  obtain rfl:c=quV 7 q pre S.2:=by simpa using hc
  exact .ms _ _ _ _ _ (.inl ⟨_,hq⟩)
 ·cases e
theorem zkE:∀u:Step_,Le (.agg (u.cells)) (.v (zam u)):=fun u=>zxH [u.act,u.from_.Stand.Place,u.from_.Stand.Credit,u.from_.in_.c0,u.from_.in_.c1,u.from_.in_.c2,u.from_.in_.c3,u.from_.bought]
theorem zhu:zfL Try.prog 187=some (zam za4):=by kernel_rfl
theorem zfp {n:Nat} {al:Bag_} {x:PointT_} {act:Int} {y:PointT_} {S S':zit} (hM:zeq n al x act y S=some S') {a s xb nx j q:Nat} {pre:List AV} (hpre:∀c,c∈pre->Go.AM.Pure c) (hnd:(ids (zmd al x a s xb nx j q pre S)).Nodup):zpS Try.prog 129 [.i act,.agg (PointT_.cells y),.ptr a 0,.ptr s 0,.ptr xb 0,.ptr nx 0] (zmd al x a s xb nx j q pre S) (fun g v M'=>∃q' pre',v=.tup []/\M'=zmd al x a s xb nx j q' pre' S'/\(q'=q\/g<=q')/\(pre'=pre\/pre'=[])):=by
 refine zlx mixed Try.func129 rfl (by decide) Try.ntmps129 (by simp) (fun g=>⟨.tup [],zmd al x a s xb nx j q pre S',⟨q,pre,rfl,rfl,.inl rfl,.inl rfl⟩,hnd,fun i hi=>.inl hi⟩) fun H0 g hf hp=>?_
 rw [zag]
 change wpA _ _ _ _ (Fr.of [(0,.i act),(1,.agg (PointT_.cells y)),(2,.ptr a 0),(3,.ptr s 0),(4,.ptr xb 0),(5,.ptr nx 0)]) H0 g
 have hS:=St.startH hf hnd hp
 have hO:(fun i=>i<g/\i∉ids (zmd al x a s xb nx j q pre S))=(fun i=>i<g/\i∉ids (zmd al x a s xb nx j q pre S)):=rfl
 generalize hOe:(fun i=>i<g/\i∉ids (zmd al x a s xb nx j q pre S))=O at hS
 replace hS:St O H0 [quB PointT_.cells q pre S.2,(a,.cells (Bag_.cells al)),(s,.cells [.mp j]),(xb,.cells (PointT_.cells x)),(nx,.cells [quV 7 q pre S.2]),(j,.obj none (zaB (mpw zad zam S.1)))] H0 g:=hS
 unfold zeq at hM
 refine Sq ?_
 refine Rg 1 ?_
 refine zcC (v:=.agg (PointT_.cells y)) (cs:=(PointT_.cells y)) hS (by decide) rfl rfl (by omega) fun H hS=>?_
 refine Ni ?_
 refine Ws ?_
 refine Sq ?_
 have hS0:=hS
 refine zcD (n:=13) rfl (by kernel_rfl) ?_
 refine zaP (by decide) zci rfl ?_
 refine zaP (by decide) zbS rfl ?_
 refine zaX (v:=.i y.Stand.Credit) 0 hS (by decide) rfl rfl (.st hS0 0 rfl (by omega)) (po zaf zav) ?_
 refine zaX (v:=.agg (Bag_.cells al)) 2 hS (by decide) rfl rfl (.st hS0 2 rfl (by omega)) (pg zdR) ?_
 obtain ⟨r1,hr1,hM⟩:=zaj hM
 refine zau (bs:=[.agg (Bag_.cells al)]) (by decide) rfl rfl ((zgf hr1).le (.k .nil)) ?_
 refine zaP (by decide) ze1 rfl ?_
 refine zaX (v:=.agg (Bag_.cells y.in_)) 0 hS (by decide) rfl rfl (.st hS0 0 rfl (by omega)) (pg zdR) ?_
 obtain ⟨r2,hr2,hM⟩:=zaj hM
 refine zau (bs:=[.agg (Bag_.cells y.in_)]) (by decide) rfl rfl ((zgf hr2).le (.k .nil)) ?_
 refine Oi (.i (w64 (r1-r2))) ?_
 refine zzJ (v:=.i (min y.Stand.Credit (w64 (r1-r2)))) (by decide) rfl ?_
 refine zaP (by decide) zci rfl ?_
 refine zaP (by decide) zbS rfl ?_
 refine za0 (v:=.i (min y.Stand.Credit (w64 (r1-r2)))) (ns:=[.i (min y.Stand.Credit (w64 (r1-r2)))]) (L':=[(g+0,.cells [.i y.Stand.Place,.i (min y.Stand.Credit (w64 (r1-r2))),.i y.in_.c0,.i y.in_.c1,.i y.in_.c2,.i y.in_.c3,.i y.bought]),quB PointT_.cells q pre S.2,(a,.cells (Bag_.cells al)),(s,.cells [.mp j]),(xb,.cells (PointT_.cells x)),(nx,.cells [quV 7 q pre S.2]),(j,.obj none (zaB (mpw zad zam S.1)))]) 0 hS rfl rfl (.st hS0 0 rfl (by omega)) rfl rfl zh7 nlb rfl fun H hS=>?_
 refine Ni ?_
 refine Ws ?_
 refine Sq ?_
 refine Rg 9 ?_
 refine zaX (v:=.mp j) 3 hS (by decide) rfl rfl .no (po zkw zl7) ?_
 refine zaX (v:=.agg [.i y.Stand.Place,.i (min y.Stand.Credit (w64 (r1-r2))),.i y.in_.c0,.i y.in_.c1,.i y.in_.c2,.i y.in_.c3,.i y.bought]) 0 hS (by decide) rfl rfl .no (pg zfn) ?_
 obtain ⟨u,hu,hM⟩:=zaj hM
 refine zks (kv:=zad) (ok:=zbE) (cv:=zam) (z:=za4) (M:=S.1) (k:=(zd9 y (w64 (r1-r2)))) (u:=u) (v':=.agg (Step_.cells u)) 6 zkC hS (by decide) rfl rfl rfl zfY zhu hu (zkE u) ?_
 refine Om (.tup [.agg (Step_.cells u),.b (zcm S.1 (zd9 y (w64 (r1-r2))))]) ?_
 refine Ox (.agg (Step_.cells u)) ?_
 refine Ox (.b (zcm S.1 (zd9 y (w64 (r1-r2))))) ?_
 refine zck hS (by decide) zgB (by omega) fun H hS=>?_
 refine za0 (v:=.agg (Step_.cells u)) (ns:=(Step_.cells u)) (L':=[(g+1+13+6,.cells (Step_.cells u)),(g+0,.cells [.i y.Stand.Place,.i (min y.Stand.Credit (w64 (r1-r2))),.i y.in_.c0,.i y.in_.c1,.i y.in_.c2,.i y.in_.c3,.i y.bought]),quB PointT_.cells q pre S.2,(a,.cells (Bag_.cells al)),(s,.cells [.mp j]),(xb,.cells (PointT_.cells x)),(nx,.cells [quV 7 q pre S.2]),(j,.obj none (zaB (mpw zad zam S.1)))]) 0 hS rfl rfl .no rfl rfl ziD nlb rfl fun H hS=>?_
 refine Oa (.b (zcm S.1 (zd9 y (w64 (r1-r2))))) ?_
 refine Ni ?_
 replace hS:=hS.keep (L':=[(g+0,.cells [.i y.Stand.Place,.i (min y.Stand.Credit (w64 (r1-r2))),.i y.in_.c0,.i y.in_.c1,.i y.in_.c2,.i y.in_.c3,.i y.bought]),quB PointT_.cells q pre S.2,(a,.cells (Bag_.cells al)),(s,.cells [.mp j]),(xb,.cells (PointT_.cells x)),(nx,.cells [quV 7 q pre S.2]),(j,.obj none (zaB (mpw zad zam S.1)))]) [false,true,true,true,true,true,true,true] rfl
 refine Ws ?_
 refine Sq ?_
 refine Rg 2 ?_
 refine Om (.b (zcm S.1 (zd9 y (w64 (r1-r2))))) ?_
 refine zdD (by decide) rfl ?_
 refine Ni ?_
 refine Ws ?_
 rcases bft (zcm S.1 (zd9 y (w64 (r1-r2)))) with hb | hb
 ·replace hM:=ifT hM hb
  refine zgR (e:=!zcm S.1 (zd9 y (w64 (r1-r2)))) rfl (by rw [hb];rfl) ?_
  refine zaz ?_
  obtain rfl:=Option.some.inj hM
  refine ⟨.inl rfl,.tup [],zmd al x a s xb nx j q pre S,g+1+13+9+2,⟨q,pre,rfl,rfl,.inl rfl,.inl rfl⟩,⟨_,rfl,.refl _⟩,fun H _=>(show Go.AM.Pure _ from .tup _ zaK).inH,zrD hpre,fun i hi=>(hS.old i (hOe▸hi)).2,fun p hp=>((hS.keep (L':=zmd al x a s xb nx j q pre S) [false,true,true,true,true,true,true] rfl).has p hp).2.2,fun i hi=>hS.fr i (by omega),by omega,hnd,fun i hi=>.inl hi,fun p hp=>⟨p.2,((hS.keep (L':=zmd al x a s xb nx j q pre S) [false,true,true,true,true,true,true] rfl).has p hp).2.2,?_,fun hn=>absurd (List.mem_map.2 ⟨p,hp,rfl⟩) hn⟩⟩
  simp only [List.mem_cons,List.not_mem_nil,or_false] at hp
  rcases hp with rfl | rfl | rfl | rfl | rfl | rfl<;>first | trivial | rfl
 ·replace hM:=ifF hM hb
  refine zkk (e:=!zcm S.1 (zd9 y (w64 (r1-r2)))) rfl (by rw [hb];rfl) ?_
  refine Sq ?_
  refine Rg 6 ?_
  refine zaX (v:=.mp j) 3 hS (by decide) rfl rfl .no (po zkw zl7) ?_
  refine zaX (v:=.agg [.i y.Stand.Place,.i (min y.Stand.Credit (w64 (r1-r2))),.i y.in_.c0,.i y.in_.c1,.i y.in_.c2,.i y.in_.c3,.i y.bought]) 0 hS (by decide) rfl rfl .no (pg zfn) ?_
  refine Om (.i act) ?_
  refine zaX (v:=.agg (PointT_.cells x)) 4 hS (by decide) rfl rfl .no (pg zfn) ?_
  refine zb9 (cs:=[.i act,.i x.Stand.Place,.i x.Stand.Credit,.i x.in_.c0,.i x.in_.c1,.i x.in_.c2,.i x.in_.c3,.i x.bought]) (by decide) zgB zoW rfl ?_
  obtain ⟨m,hm,hM⟩:=zaj hM
  refine zjv (kv:=zad) (ok:=zbE) (cv:=zam) (z0:=za4) (M:=S.1) (k:=(zd9 y (w64 (r1-r2)))) (v:=⟨act,x⟩) (M':=m) (L':=[(g+0,.cells [.i y.Stand.Place,.i (min y.Stand.Credit (w64 (r1-r2))),.i y.in_.c0,.i y.in_.c1,.i y.in_.c2,.i y.in_.c3,.i y.bought]),quB PointT_.cells q pre S.2,(a,.cells (Bag_.cells al)),(s,.cells [.mp j]),(xb,.cells (PointT_.cells x)),(nx,.cells [quV 7 q pre S.2]),(j,.obj none (zaB (mpw zad zam m)))]) 6 zkC (.inl rfl) hS rfl rfl rfl rfl zfY zhu hm rfl fun H hS=>?_
  refine Ni ?_
  refine Ws ?_
  have hle:S.2.length+1<=1048576:=by
    by_cases h:S.2.length+1<=1048576
    ·exact h
    ·rw [if_neg h] at hM;cases hM
  rw [if_pos hle] at hM
  obtain rfl:=Option.some.inj hM
  refine Rg 5 ?_
  refine zaX (v:=quV 7 q pre S.2) 5 hS (by decide) rfl rfl .no (po ziE zjR) ?_
  refine zaX (v:=.agg [.i y.Stand.Place,.i (min y.Stand.Credit (w64 (r1-r2))),.i y.in_.c0,.i y.in_.c1,.i y.in_.c2,.i y.in_.c3,.i y.bought]) 0 hS (by decide) rfl rfl .no (pg zfn) ?_
  refine zmN (e:=155) (es:=[[.i y.Stand.Place,.i (min y.Stand.Credit (w64 (r1-r2))),.i y.in_.c0,.i y.in_.c1,.i y.in_.c2,.i y.in_.c3,.i y.bought]]) (by decide) ziF zoX rfl zl8 rfl (by decide) ?_
  replace hS:=hS.toHead (L':=[quB PointT_.cells q pre S.2,(g+0,.cells [.i y.Stand.Place,.i (min y.Stand.Credit (w64 (r1-r2))),.i y.in_.c0,.i y.in_.c1,.i y.in_.c2,.i y.in_.c3,.i y.bought]),(a,.cells (Bag_.cells al)),(s,.cells [.mp j]),(xb,.cells (PointT_.cells x)),(nx,.cells [quV 7 q pre S.2]),(j,.obj none (zaB (mpw zad zam m)))]) 1 nlb rfl
  refine zp3 (f:=PointT_.cells) (k:=7) (ys:=[(zd9 y (w64 (r1-r2)))]) hS (by decide) rfl (fun _=>rfl) rfl ziF zl8 (Nat.succ_pos 0) hle (by omega) fun H pre' hpr hS=>?_
  refine za0 (v:=quV 7 (g+1+13+9+2+6+3) pre' (S.2++[(zd9 y (w64 (r1-r2)))])) (ns:=[quV 7 (g+1+13+9+2+6+3) pre' (S.2++[(zd9 y (w64 (r1-r2)))])]) (L':=[quB PointT_.cells (g+1+13+9+2+6+3) pre' (S.2++[(zd9 y (w64 (r1-r2)))]),(q,.ice),(g+0,.cells [.i y.Stand.Place,.i (min y.Stand.Credit (w64 (r1-r2))),.i y.in_.c0,.i y.in_.c1,.i y.in_.c2,.i y.in_.c3,.i y.bought]),(a,.cells (Bag_.cells al)),(s,.cells [.mp j]),(xb,.cells (PointT_.cells x)),(nx,.cells [quV 7 (g+1+13+9+2+6+3) pre' (S.2++[(zd9 y (w64 (r1-r2)))])]),(j,.obj none (zaB (mpw zad zam m)))]) 6 hS rfl rfl .no rfl rfl zkx nlb rfl fun H hS=>?_
  refine Ni ?_
  have hS2:=hS.keep (L':=zmd al x a s xb nx j (g+1+13+9+2+6+3) pre' (m,S.2++[(zd9 y (w64 (r1-r2)))])) [true,false,false,true,true,true,true,true] rfl
  have hpre2:∀c,c∈pre'->Go.AM.Pure c:=by rcases hpr with rfl | rfl;exact hpre;exact fun c hc=>by simp at hc
  refine ⟨.inl rfl,.tup [],zmd al x a s xb nx j (g+1+13+9+2+6+3) pre' (m,S.2++[(zd9 y (w64 (r1-r2)))]),_,⟨(g+1+13+9+2+6+3),pre',rfl,rfl,.inr (by omega),hpr⟩,⟨_,rfl,.refl _⟩,fun H _=>(show Go.AM.Pure _ from .tup _ zaK).inH,zrD hpre2,fun i hi=>(hS.old i (hOe▸hi)).2,fun p hp=>(hS2.has p hp).2.2,hS.fr,by omega,hS2.nd,fun i hi=>?_,fun p hp=>?_⟩
  ·simp only [ids,List.map_cons,List.map_nil,List.mem_cons,List.not_mem_nil,or_false,quB] at hi ⊢
   omega
  ·simp only [List.mem_cons,List.not_mem_nil,or_false] at hp
   rcases hp with rfl | rfl | rfl | rfl | rfl | rfl
   ·exact ⟨.ice,hS.get (n:=1) rfl,trivial,fun _=>rfl⟩
   ·exact ⟨_,hS.get (n:=3) rfl,trivial,fun hn=>absurd (by simp [ids,quB]) hn⟩
   ·exact ⟨_,hS.get (n:=4) rfl,trivial,fun hn=>absurd (by simp [ids,quB]) hn⟩
   ·exact ⟨_,hS.get (n:=5) rfl,trivial,fun hn=>absurd (by simp [ids,quB]) hn⟩
   ·exact ⟨_,hS.get (n:=6) rfl,trivial,fun hn=>absurd (by simp [ids,quB]) hn⟩
   ·exact ⟨_,hS.get (n:=7) rfl,rfl,fun hn=>absurd (by simp [ids,quB]) hn⟩
theorem zm3 {S:Type} {Lo:S->BL} (hk:∀s s',zlE (Lo s) (Lo s')) (hnd:∀s,(ids (Lo s)).Nodup) (hin:∀s,InB In (Lo s)) {aF:Wheel_->S->Option (Bool×S)} {f0:AV} (hF:∀s H,Has H (Lo s)->In H f0) (h0:cellsOf f0=some [f0]) (hf:∀{x0:Wheel_} {s:S} {r:Bool×S},aF x0 s=some r->zqq Try.prog f0 [.agg (Wheel.cells x0.Wheel)] (Lo s) (.b r.1) (Lo r.2)) {n:Nat} {a0:Wheel} {st:S} {r:(Wheel_×Int)×S} (hM:zhI n aF a0 st=some r):zmt Try.prog 86 [.agg (Wheel.cells a0),f0] (Lo st) (.tup [.agg [.i r.1.1.Wheel.Round,.sl .no 1 (r.1.1.Wheel.Notches.map cI),.sl .no 1 (r.1.1.Wheel.Coins.map cI)],.i r.1.2]) (Lo r.2):=by
 have hnd0:∀s,(ids (Lo s)).Nodup:=fun s=>hnd s
 refine zfF mixed Try.func86 rfl (by decide) Try.ntmps86 (by simp) (hk _ _) (hnd st) ?pure ?cells fun H0 g hf_ hp=>?_
 case pure=>exact fun H _=>(show Go.AM.Pure _ from .tup _ (zac (.agg _ (zac (.v _) (zac (.sl _ _ (zaE (fun x=>(zac (.v _) zaK)))) (zac (.sl _ _ (zaE (fun x=>(zac (.v _) zaK)))) zaK)))) (zac (.v _) zaK))).inH
 case cells=>exact hin _
 rw [zag]
 change wpA _ _ _ _ (Fr.of [(0,.agg (Wheel.cells a0)),(1,f0)]) H0 g
 have hS:=St.startH (L:=([]++Lo st)) hf_ (hnd st) hp
 replace hS:St (fun i=>i<g/\i∉ids (Lo st)) H0 ([]++Lo st) H0 g:=hS
 refine Sq ?_
 refine Rg 3 ?_
 refine zcC (v:=.agg (Wheel.cells a0)) (cs:=(Wheel.cells a0)) hS (by decide) rfl rfl (by omega) fun H hS=>?_
 refine zck hS (by decide) zfG (by omega) fun H hS=>?_
 refine Oa (.i 0) ?_
 refine Ni ?_
 refine zbk (L':=([(g+1,.cells [.i 0,.sl .nil 0 [],.sl .nil 0 []])]++Lo st)) 1 2 hS rfl rfl rfl fun H hS=>?_
 refine Ws ?_
 refine Sq ?_
 refine Sq ?_
 refine Rg 3 ?_
 refine Olg (.agg (Wheel.cells a0)) zb0 ?_
 obtain ⟨r1,hr1,hM⟩:=zaj hM
 refine zau (bs:=[.agg (Wheel.cells a0)]) (by decide) rfl rfl ((ziO hr1).le (.k .nil)) ?_
 refine Oa (.i r1) ?_
 refine Ni ?_
 refine Ws ?_
 refine Sq ?_
 refine Rg 2 ?_
 refine Om (.i r1) ?_
 refine Oi (.b (r1 != 0)) ?_
 refine Ni ?_
 refine Ws ?_
 rcases bft (r1 != 0) with hb2 | hb2
 ·replace hM:=ifT hM hb2
  refine Ct hb2 ?_
  refine Sq ?_
  refine Rg 4 ?_
  refine zb9 (cs:=[.i 0,.sl .nil 0 [],.sl .nil 0 []]) (by decide) zfG zjP rfl ?_
  refine Om (.i r1) ?_
  refine za0 (v:=.agg [.i 0,.sl .nil 0 [],.sl .nil 0 []]) (ns:=[.i 0,.sl .nil 0 [],.sl .nil 0 []]) (L':=([(g+1,.cells [.i 0,.sl .nil 0 [],.sl .nil 0 []])]++Lo st)) 0 hS rfl rfl .no rfl rfl ziA nlb rfl fun H hS=>?_
  refine Oa (.i r1) ?_
  refine Ni ?_
  refine Ws ?_
  refine zaQ ?_
  refine zan ?_
  refine zir (x:=.tup [.agg [.i 0,.sl .nil 0 [],.sl .nil 0 []],.i r1]) (f:=fun r=>.tup [.agg [.i r.1.1.Wheel.Round,.sl .no 1 (r.1.1.Wheel.Notches.map cI),.sl .no 1 (r.1.1.Wheel.Coins.map cI)],.i r.1.2]) (fd:=fun r=>(Lo r.2)) (.inr rfl) ?_ (.tupL (.cons (.aggL (.k (.cons (.sl0 .nil 1 0) (.cons (.sl0 .nil 1 0) .nil)))) (.k .nil))) (Option.some.inj hM) hS 1 rfl
  exact (zc8 (zdw (x:=.agg [.i 0,.sl .nil 0 [],.sl .nil 0 []]) 0 hS rfl rfl (pg zfm)) (zae (x:=.i r1) rfl))
 ·replace hM:=ifF hM hb2
  refine Cf hb2 ?_
  refine zaz ?_
  refine Ws ?_
  refine Sq ?_
  refine Sq ?_
  refine Rg 5 ?_
  refine Om (f0) ?_
  refine Olg (.agg (Wheel.cells a0)) zb0 ?_
  refine zb9 (cs:=(Wheel.cells a0)) (by decide) zfG zjP rfl ?_
  obtain ⟨r3,hr3,hM⟩:=zaj hM
  replace hS:St (fun i=>i<g/\i∉ids (Lo st)) H0 ([(g+1,.cells [.i 0,.sl .nil 0 [],.sl .nil 0 []])]++Lo st) _ _:=hS
  refine znU (bs:=[.agg (Wheel.cells a0)]) (.inl rfl) hS (by decide) rfl rfl ((hf hr3).le (.k .nil)) (hk _ _).ids (by omega) fun H hS=>?_
  refine zdD (e:=r3.1) (by decide) rfl ?_
  refine Ni ?_
  refine Ws ?_
  rcases bft (!r3.1) with hb4 | hb4
  ·replace hM:=ifT hM hb4
   refine Ct hb4 ?_
   refine Sq ?_
   refine Rg 3 ?_
   refine zb9 (cs:=[.i 0,.sl .nil 0 [],.sl .nil 0 []]) (by decide) zfG zjP rfl ?_
   refine za0 (v:=.agg [.i 0,.sl .nil 0 [],.sl .nil 0 []]) (ns:=[.i 0,.sl .nil 0 [],.sl .nil 0 []]) (L':=([(g+1,.cells [.i 0,.sl .nil 0 [],.sl .nil 0 []])]++Lo r3.2)) 0 hS rfl rfl .no rfl rfl ziA nlb rfl fun H hS=>?_
   refine Oa (.i 1) ?_
   refine Ni ?_
   refine Ws ?_
   refine zaQ ?_
   refine zan ?_
   refine zir (x:=.tup [.agg [.i 0,.sl .nil 0 [],.sl .nil 0 []],.i 1]) (f:=fun r=>.tup [.agg [.i r.1.1.Wheel.Round,.sl .no 1 (r.1.1.Wheel.Notches.map cI),.sl .no 1 (r.1.1.Wheel.Coins.map cI)],.i r.1.2]) (fd:=fun r=>(Lo r.2)) (.inr rfl) ?_ (.tupL (.cons (.aggL (.k (.cons (.sl0 .nil 1 0) (.cons (.sl0 .nil 1 0) .nil)))) (.k .nil))) (Option.some.inj hM) hS 1 rfl
   exact (zc8 (zdw (x:=.agg [.i 0,.sl .nil 0 [],.sl .nil 0 []]) 0 hS rfl rfl (pg zfm)) (zae (x:=.i 1) rfl))
  ·replace hM:=ifF hM hb4
   refine Cf hb4 ?_
   refine zaz ?_
   refine Ws ?_
   refine Sq ?_
   refine Rg 4 ?_
   refine Olg (.agg (Wheel.cells a0)) zb0 ?_
   refine zb9 (cs:=(Wheel.cells a0)) (by decide) zfG zjP rfl ?_
   refine za0 (v:=.agg (Wheel.cells a0)) (ns:=(Wheel.cells a0)) (L':=([(g+1,.cells (Wheel.cells a0))]++Lo r3.2)) 0 hS rfl rfl .no rfl rfl ziA nlb rfl fun H hS=>?_
   refine Oa (.i 0) ?_
   refine Ni ?_
   refine Ws ?_
   refine zaQ ?_
   refine zir (x:=.tup [.agg (Wheel.cells a0),.i 0]) (f:=fun r=>.tup [.agg [.i r.1.1.Wheel.Round,.sl .no 1 (r.1.1.Wheel.Notches.map cI),.sl .no 1 (r.1.1.Wheel.Coins.map cI)],.i r.1.2]) (fd:=fun r=>(Lo r.2)) (.inr rfl) ?_ (.refl _) (Option.some.inj hM) hS 1 rfl
   exact (zc8 (zdw (x:=.agg (Wheel.cells a0)) 0 hS rfl rfl (pg zfm)) (zae (x:=.i 0) rfl))
end Go.Proofs.Ytenogpmlhpcibaa
