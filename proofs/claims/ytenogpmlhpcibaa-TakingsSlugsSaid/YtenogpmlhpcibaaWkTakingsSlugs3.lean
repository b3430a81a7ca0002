/-
  The code returns what the functions say (printed by gen.py).
  Conditions: none.
-/
import Derived.Test.YtenogpmlhpcibaaWkTakingsSlugs2
import Derived.Test.YtenogpmlhpcibaaAmOx
import Derived.Test.YtenogpmlhpcibaaSh
import Derived.Test.YtenogpmlhpcibaaKs
import Derived.Test.YtenogpmlhpcibaaEn
set_option linter.all false
namespace Go.Proofs.Ytenogpmlhpcibaa
open Go Go.AM Go.Law
set_option linter.unusedVariables false
set_option maxRecDepth 4000
set_option maxHeartbeats 4000000
theorem zfA {n:Nat} {a0:Box} {r:Int×Int×Int×Int} (hM:zdN n a0=some r):zaL Try.prog 20 [.agg (Box.cells a0)] (.tup [.i r.1,.i r.2.1,.i r.2.2.1,.i r.2.2.2]):=by
 refine zao mixed Try.func20 rfl (by decide) Try.ntmps20 (by simp) ?pure fun H0 g hf=>?_
 case pure=>exact .tup _ (zac (.v _) (zac (.v _) (zac (.v _) (zac (.v _) zaE))))
 rw [zaj]
 change wpA _ _ _ _ (Fr.of [(0,.agg (Box.cells a0))]) H0 g
 have hS:=St.start hf
 refine Sq ?_
 refine Rg 5 ?_
 refine zcZ (v:=.agg (Box.cells a0)) (cs:=(Box.cells a0)) hS (by decide) rfl rfl (by omega) fun H hS=>?_
 refine Oa (.i 0) ?_
 refine Oa (.i 0) ?_
 refine Oa (.i 0) ?_
 refine Oa (.i 0) ?_
 refine Ni ?_
 refine zbO (L':=[]) 0 1 hS rfl rfl rfl fun H hS=>?_
 refine Ws ?_
 refine Sq ?_
 refine Rg 7 ?_
 refine Olg (.agg (Box.cells a0)) zbd ?_
 obtain ⟨r1,hr1,hM⟩:=zal hM
 refine zaD (bs:=[.agg (Box.cells a0)]) (by decide) rfl rfl ((zer hr1).le (.k .nil)) ?_
 refine Om (.tup [pA Box_.cells r1.1,.i r1.2]) ?_
 refine Ox (pA Box_.cells r1.1) ?_
 refine Ox (.i r1.2) ?_
 refine Oa (pA Box_.cells r1.1) ?_
 refine Oa (.i r1.2) ?_
 refine Ni ?_
 refine Ws ?_
 refine Sq ?_
 refine Sq ?_
 refine Rg 2 ?_
 refine Om (.i r1.2) ?_
 refine Oi (.b (r1.2 != 0)) ?_
 refine Ni ?_
 refine Ws ?_
 rcases bft (r1.2 != 0) with hb2 | hb2
 ·replace hM:=ifT hM hb2
  refine Ct hb2 ?_
  refine Sq ?_
  refine Rg 5 ?_
  refine Om (.i r1.2) ?_
  refine Oa (.i 0) ?_
  refine Oa (.i 0) ?_
  refine Oa (.i 0) ?_
  refine Oa (.i r1.2) ?_
  refine Ni ?_
  refine Ws ?_
  refine zaT ?_
  refine zax ?_
  refine za5 (x:=.tup [.i 0,.i 0,.i 0,.i r1.2]) (f:=fun r=>.tup [.i r.1,.i r.2.1,.i r.2.2.1,.i r.2.2.2]) (.inr rfl) ?_ (.refl _) (Option.some.inj hM) hS
  exact (znh (zae (x:=.i 0) rfl) (zae (x:=.i 0) rfl) (zae (x:=.i 0) rfl) (zae (x:=.i r1.2) rfl))
 ·replace hM:=ifF hM hb2
  refine Cf hb2 ?_
  refine zaO ?_
  refine Ws ?_
  refine Sq ?_
  refine Rg 5 ?_
  refine Om (pA Box_.cells r1.1) ?_
  refine Of ((Box.cells a0)) zeA ?_
  refine Olp (.sl .no 1 (a0.Marked.map cI)) zar zaH ?_
  obtain ⟨r3,hr3,hM⟩:=zal hM
  refine zaD (bs:=[pA Box_.cells r1.1,.sl .no 1 (a0.Marked.map cI)]) (by decide) rfl rfl ((za8 hr3).le (.k (.k .nil))) ?_
  refine Oa (.i r3) ?_
  refine Ni ?_
  refine Ws ?_
  refine Sq ?_
  have hS0:=hS
  refine zdq (n:=15) rfl (by kernel_rfl) ?_
  refine Om (pA Box_.cells r1.1) ?_
  refine Of ((Box.cells a0)) zb5 ?_
  refine Olp (.sl .no 1 (a0.Found.map cI)) zar zaH ?_
  obtain ⟨r4,hr4,hM⟩:=zal hM
  refine zaD (bs:=[pA Box_.cells r1.1,.sl .no 1 (a0.Found.map cI)]) (by decide) rfl rfl ((za8 hr4).le (.k (.k .nil))) ?_
  refine Om (.i r3) ?_
  refine Oi (.i (w64 (r4-r3))) ?_
  refine Om (.i r3) ?_
  refine Om (pA Box_.cells r1.1) ?_
  refine Of ((Box.cells a0)) zcr ?_
  refine Olp (.sl .no 1 (a0.Slugs.map cI)) zar zaH ?_
  obtain ⟨r5,hr5,hM⟩:=zal hM
  refine zaD (bs:=[pA Box_.cells r1.1,.sl .no 1 (a0.Slugs.map cI)]) (by decide) rfl rfl ((za8 hr5).le (.k (.k .nil))) ?_
  refine Oa (.i (w64 (r4-r3))) ?_
  refine Oa (.i r3) ?_
  refine Oa (.i r5) ?_
  refine Oa (.i 0) ?_
  refine Ni ?_
  refine zfj [(2,.i (w64 (r4-r3))),(3,.i r3),(4,.i r5),(5,.i 0)] (.k (.k (.k (.k .nil)))) ?_
  refine zaT ?_
  refine za5 (x:=.tup [.i (w64 (r4-r3)),.i r3,.i r5,.i 0]) (f:=fun r=>.tup [.i r.1,.i r.2.1,.i r.2.2.1,.i r.2.2.2]) (.inr rfl) ?_ (.refl _) (Option.some.inj hM) hS
  exact (znh (zae (x:=.i (w64 (r4-r3))) rfl) (zae (x:=.i r3) rfl) (zae (x:=.i r5) rfl) (zae (x:=.i 0) rfl))
theorem zf7 {n:Nat} {a0:List Int} {a1:List Int} {r:Bool} (hM:zdu n a0 a1=some r):zaL Try.prog 21 [.sl .no 1 (a0.map cI),.sl .no 1 (a1.map cI)] (.b r):=by
 refine zao mixed Try.func21 rfl (by decide) Try.ntmps21 (by simp) ?pure fun H0 g hf=>?_
 case pure=>exact .v _
 rw [zaj]
 change wpA _ _ _ _ (Fr.of [(0,.sl .no 1 (a0.map cI)),(1,.sl .no 1 (a1.map cI))]) H0 g
 have hS:=St.start hf
 refine Sq ?_
 refine Rg 1 ?_
 refine Oa (.b false) ?_
 refine Ni ?_
 refine Ws ?_
 refine Sq ?_
 refine Sq ?_
 refine Rg 5 ?_
 refine Om (.sl .no 1 (a0.map cI)) ?_
 refine zb7 (n:=a0.length) (by decide) rfl (List.length_map _) zaN ?_
 refine Om (.sl .no 1 (a1.map cI)) ?_
 refine zb7 (n:=a1.length) (by decide) rfl (List.length_map _) zaN ?_
 refine Oi (.b ((a0.length:Int) != (a1.length:Int))) ?_
 refine Ni ?_
 refine Ws ?_
 rcases bft ((a0.length:Int) != (a1.length:Int)) with hb1 | hb1
 ·replace hM:=ifT hM hb1
  refine Ct hb1 ?_
  refine Sq ?_
  refine Rg 1 ?_
  refine Oa (.b false) ?_
  refine Ni ?_
  refine Ws ?_
  refine zaT ?_
  refine zax ?_
  refine za5 (x:=.b false) (f:=fun r=>.b r) (.inr rfl) ?_ (.refl _) (Option.some.inj hM) hS
  exact (zaC (zae (x:=.b false) rfl))
 ·replace hM:=ifF hM hb1
  refine Cf hb1 ?_
  refine zaO ?_
  refine Ws ?_
  refine zbm (J:=Unit) (fun j=>[]) (fun j H' g'=>St (·<g) H0 [] H' g'/\zdg=some r) ?_ ?_
  ·rintro _ H g1 ⟨hS,hM⟩
   change wpA _ _ _ _ (Fr.of []) _ _
   replace hS:St (·<g) H0 [] H g1:=hS
   replace hM:zdg=some r:=hM
   refine Sq ?_
   refine Rg 1 ?_
   refine Oa (.b true) ?_
   refine Ni ?_
   refine Ws ?_
   refine zaT ?_
   refine za5 (x:=.b true) (f:=fun r=>.b r) (.inr rfl) ?_ (.refl _) (Option.some.inj hM) hS
   exact (zaC (zae (x:=.b true) rfl))
  ·refine Sq ?_
   refine Rg 1 ?_
   refine Oa (.i 0) ?_
   refine Ni ?_
   refine Ws ?_
   refine zaP ?_
   refine zcE (V:=Int) (fun v=>[(0,.sl .no 1 (a0.map cI)),(1,.sl .no 1 (a1.map cI)),(5,.i v)]) (fun v m2 H' g'=>St (·<g) H0 [] H' g'/\zbr a0 a1 m2 v=some r) (n:=n) 0 (.k (.k (.k .nil))) ⟨(hS.keep [] rfl).up (by omega),hM⟩ ?_
   rintro v2 m2 H g2 ⟨hS,hM⟩
   obtain _ | m2:=m2
   ·exact nomatch (show none=some _ from hM)
   change wpA _ _ _ _ (Fr.of [(0,.sl .no 1 (a0.map cI)),(1,.sl .no 1 (a1.map cI)),(5,.i v2)]) _ _
   replace hS:St (·<g) H0 [] H g2:=hS
   replace hM:zcC a0 a1 (zbr a0 a1 m2) v2=some r:=hM
   refine Sq ?_
   refine Sq ?_
   refine Rg 4 ?_
   refine Om (.i v2) ?_
   refine Om (.sl .no 1 (a0.map cI)) ?_
   refine zb7 (n:=a0.length) (by decide) rfl (List.length_map _) zaN ?_
   refine Oi (.b (decide (v2<(a0.length:Int)))) ?_
   refine Ni ?_
   refine Ws ?_
   rcases bft (decide (v2<(a0.length:Int))) with hb3 | hb3
   ·replace hM:=ifT hM hb3
    refine Ct hb3 ?_
    refine zaO ?_
    refine Ws ?_
    refine Sq ?_
    refine zaP ?_
    refine Sq ?_
    have hS0:=hS
    refine zdq (n:=9) rfl (by kernel_rfl) ?_
    refine Om (.sl .no 1 (a0.map cI)) ?_
    refine Om (.i v2) ?_
    obtain ⟨x4,hx4,hM⟩:=zal hM
    refine zbb (xs:=a0) (f:=cI) (z:=v2) (u:=x4) (by decide) rfl rfl zaA hx4 ?_
    refine Olp (.i x4) zah zaw ?_
    refine Om (.sl .no 1 (a1.map cI)) ?_
    refine Om (.i v2) ?_
    obtain ⟨x5,hx5,hM⟩:=zal hM
    refine zbb (xs:=a1) (f:=cI) (z:=v2) (u:=x5) (by decide) rfl rfl zaA hx5 ?_
    refine Olp (.i x5) zah zaw ?_
    refine Oi (.b (x4 != x5)) ?_
    refine Ni ?_
    refine Ws ?_
    rcases bft (x4 != x5) with hb6 | hb6
    ·replace hM:=ifT hM hb6
     refine Ct hb6 ?_
     refine Sq ?_
     refine Rg 1 ?_
     refine Oa (.b false) ?_
     refine Ni ?_
     refine Ws ?_
     refine zaT ?_
     refine zbF ?_
     refine zax ?_
     refine zcY ?_
     refine zbF ?_
     refine zdI ?_
     refine za5 (x:=.b false) (f:=fun r=>.b r) (.inr rfl) ?_ (.refl _) (Option.some.inj hM) hS
     exact (zaC (zae (x:=.b false) rfl))
    ·replace hM:=ifF hM hb6
     refine Cf hb6 ?_
     refine zaO ?_
     refine zaI ?_
     refine Ws ?_
     refine Rg 3 ?_
     refine Om (.i v2) ?_
     refine Oi (.i (w64 (v2+1))) ?_
     refine Oa (.i (w64 (v2+1))) ?_
     refine Ni ?_
     exact zbS (w64 (v2+1)) (Nat.lt_succ_self _) (.k (.k (.k .nil))) ⟨(hS.keep [] rfl).up (by omega),hM⟩
   ·replace hM:=ifF hM hb3
    refine Cf hb3 ?_
    refine zcl ?_
    refine zaM ?_
    refine zaJ ?_
    refine zaR ?_
    exact zap () .nil ⟨(hS.keep [] rfl).up (by omega),hM⟩
theorem ziD {n:Nat} {a0:List Int} {r:Int} (hM:slices_Max_int n a0=some r):zaL Try.prog 73 [.sl .no 1 (a0.map cI)] (.i r):=by
 refine zao mixed Try.func73 rfl (by decide) Try.ntmps73 (by simp) ?pure fun H0 g hf=>?_
 case pure=>exact .v _
 rw [zaj]
 change wpA _ _ _ _ (Fr.of [(0,.sl .no 1 (a0.map cI))]) H0 g
 have hS:=St.start hf
 refine Sq ?_
 refine Rg 1 ?_
 refine Oa (.i 0) ?_
 refine Ni ?_
 refine Ws ?_
 refine zbm (J:=Unit) (fun j=>[(0,.sl .no 1 (a0.map cI))]) (fun j H' g'=>St (·<g) H0 [] H' g'/\zdi n a0=some r) ?_ ?_
 ·rintro _ H g1 ⟨hS,hM⟩
  change wpA _ _ _ _ (Fr.of [(0,.sl .no 1 (a0.map cI))]) _ _
  replace hS:St (·<g) H0 [] H g1:=hS
  replace hM:zdi n a0=some r:=hM
  refine Sq ?_
  refine Rg 4 ?_
  refine Om (.sl .no 1 (a0.map cI)) ?_
  obtain ⟨x1,hx1,hM⟩:=zal hM
  refine zbb (xs:=a0) (f:=cI) (z:=0) (u:=x1) (by decide) rfl rfl zaA hx1 ?_
  refine Olp (.i x1) zah zaw ?_
  refine Oa (.i x1) ?_
  refine Ni ?_
  refine Ws ?_
  refine zbm (J:=Int) (fun j=>[(3,.i j)]) (fun j H' g'=>St (·<g) H0 [] H' g'/\zdh j=some r) ?_ ?_
  ·rintro v2 H g2 ⟨hS,hM⟩
   change wpA _ _ _ _ (Fr.of [(3,.i v2)]) _ _
   replace hS:St (·<g) H0 [] H g2:=hS
   replace hM:zdh v2=some r:=hM
   refine Sq ?_
   refine Rg 2 ?_
   refine Om (.i v2) ?_
   refine Oa (.i v2) ?_
   refine Ni ?_
   refine Ws ?_
   refine zaT ?_
   refine za5 (x:=.i v2) (f:=fun r=>.i r) (.inr rfl) ?_ (.refl _) (Option.some.inj hM) hS
   exact (zaC (zae (x:=.i v2) rfl))
  ·refine Sq ?_
   refine Rg 1 ?_
   refine Oa (.i 1) ?_
   refine Ni ?_
   refine Ws ?_
   refine zaP ?_
   refine zcE (V:=Int×Int) (fun v=>[(0,.sl .no 1 (a0.map cI)),(3,.i v.1),(4,.i v.2)]) (fun v m3 H' g'=>St (·<g) H0 [] H' g'/\zbI a0 m3 v.1 v.2=some r) (n:=n) (x1,1) (.k (.k (.k .nil))) ⟨(hS.keep [] rfl).up (by omega),hM⟩ ?_
   rintro ⟨v3,v4⟩ m3 H g3 ⟨hS,hM⟩
   obtain _ | m3:=m3
   ·exact nomatch (show none=some _ from hM)
   change wpA _ _ _ _ (Fr.of [(0,.sl .no 1 (a0.map cI)),(3,.i v3),(4,.i v4)]) _ _
   replace hS:St (·<g) H0 [] H g3:=hS
   replace hM:zcD a0 (zbI a0 m3) v3 v4=some r:=hM
   refine Sq ?_
   refine Sq ?_
   refine Rg 4 ?_
   refine Om (.i v4) ?_
   refine Om (.sl .no 1 (a0.map cI)) ?_
   refine zb7 (n:=a0.length) (by decide) rfl (List.length_map _) zaN ?_
   refine Oi (.b (decide (v4<(a0.length:Int)))) ?_
   refine Ni ?_
   refine Ws ?_
   rcases bft (decide (v4<(a0.length:Int))) with hb5 | hb5
   ·replace hM:=ifT hM hb5
    refine Ct hb5 ?_
    refine zaO ?_
    refine Ws ?_
    refine Sq ?_
    refine zaP ?_
    refine Rg 7 ?_
    refine Om (.i v3) ?_
    refine Om (.sl .no 1 (a0.map cI)) ?_
    refine Om (.i v4) ?_
    obtain ⟨x6,hx6,hM⟩:=zal hM
    refine zbb (xs:=a0) (f:=cI) (z:=v4) (u:=x6) (by decide) rfl rfl zaA hx6 ?_
    refine Olp (.i x6) zah zaw ?_
    refine zsk (v:=.i (max v3 x6)) (by decide) rfl ?_
    refine Oa (.i (max v3 x6)) ?_
    refine Ni ?_
    refine zaI ?_
    refine Ws ?_
    refine Rg 3 ?_
    refine Om (.i v4) ?_
    refine Oi (.i (w64 (v4+1))) ?_
    refine Oa (.i (w64 (v4+1))) ?_
    refine Ni ?_
    exact zbS ((max v3 x6),w64 (v4+1)) (Nat.lt_succ_self _) (.k (.k (.k .nil))) ⟨(hS.keep [] rfl).up (by omega),hM⟩
   ·replace hM:=ifF hM hb5
    refine Cf hb5 ?_
    refine zcl ?_
    refine zaM ?_
    refine zaJ ?_
    refine zaR ?_
    exact zap v3 (.k .nil) ⟨(hS.keep [] rfl).up (by omega),hM⟩
 ·refine Sq ?_
  refine Rg 3 ?_
  refine Om (.sl .no 1 (a0.map cI)) ?_
  refine zb7 (n:=a0.length) (by decide) rfl (List.length_map _) zaN ?_
  refine Oi (.b (decide ((a0.length:Int)<1))) ?_
  refine Ni ?_
  refine Ws ?_
  rcases bft (decide ((a0.length:Int)<1)) with hb7 | hb7
  ·replace hM:=ifT hM hb7
   refine Ct hb7 ?_
   refine Rg 2 ?_
   exact nomatch (show none=some _ from hM)
  ·replace hM:=ifF hM hb7
   refine Cf hb7 ?_
   refine zaO ?_
   exact zap () (.k .nil) ⟨(hS.keep [] rfl).up (by omega),hM⟩
theorem zjJ {n:Nat} {a0:Box} {r:Int×Int} (hM:zeR n a0=some r):zaL Try.prog 39 [.agg (Box.cells a0)] (.tup [.i r.1,.i r.2]):=by
 refine zao mixed Try.func39 rfl (by decide) Try.ntmps39 (by simp) ?pure fun H0 g hf=>?_
 case pure=>exact .tup _ (zac (.v _) (zac (.v _) zaE))
 rw [zaj]
 change wpA _ _ _ _ (Fr.of [(0,.agg (Box.cells a0))]) H0 g
 have hS:=St.start hf
 refine Sq ?_
 refine Rg 3 ?_
 refine zcZ (v:=.agg (Box.cells a0)) (cs:=(Box.cells a0)) hS (by decide) rfl rfl (by omega) fun H hS=>?_
 refine Oa (.i 0) ?_
 refine Oa (.i 0) ?_
 refine Ni ?_
 refine zbO (L':=[]) 0 1 hS rfl rfl rfl fun H hS=>?_
 refine Ws ?_
 refine Sq ?_
 refine Rg 7 ?_
 refine Olg (.agg (Box.cells a0)) zbd ?_
 obtain ⟨r1,hr1,hM⟩:=zal hM
 refine zaD (bs:=[.agg (Box.cells a0)]) (by decide) rfl rfl ((zer hr1).le (.k .nil)) ?_
 refine Om (.tup [pA Box_.cells r1.1,.i r1.2]) ?_
 refine Ox (pA Box_.cells r1.1) ?_
 refine Ox (.i r1.2) ?_
 refine Oa (pA Box_.cells r1.1) ?_
 refine Oa (.i r1.2) ?_
 refine Ni ?_
 refine Ws ?_
 refine Sq ?_
 refine Sq ?_
 refine Rg 2 ?_
 refine Om (.i r1.2) ?_
 refine Oi (.b (r1.2 != 0)) ?_
 refine Ni ?_
 refine Ws ?_
 rcases bft (r1.2 != 0) with hb2 | hb2
 ·replace hM:=ifT hM hb2
  refine Ct hb2 ?_
  refine Sq ?_
  refine Rg 3 ?_
  refine Om (.i r1.2) ?_
  refine Oa (.i 0) ?_
  refine Oa (.i r1.2) ?_
  refine Ni ?_
  refine Ws ?_
  refine zaT ?_
  refine zax ?_
  refine za5 (x:=.tup [.i 0,.i r1.2]) (f:=fun r=>.tup [.i r.1,.i r.2]) (.inr rfl) ?_ (.refl _) (Option.some.inj hM) hS
  exact (zdE (zae (x:=.i 0) rfl) (zae (x:=.i r1.2) rfl))
 ·replace hM:=ifF hM hb2
  refine Cf hb2 ?_
  refine zaO ?_
  refine Ws ?_
  refine Sq ?_
  have hS0:=hS
  refine zdq (n:=9) rfl (by kernel_rfl) ?_
  refine Of ((Box.cells a0)) zgu ?_
  refine Olp (.i a0.Plays) zah zaw ?_
  refine Om (pA Box_.cells r1.1) ?_
  obtain ⟨r3,hr3,hM⟩:=zal hM
  refine zaD (bs:=[pA Box_.cells r1.1]) (by decide) rfl rfl ((zfM hr3).le (.k .nil)) ?_
  obtain ⟨r4,hr4,hM⟩:=zal hM
  refine zaD (bs:=[.sl .no 1 (r3.map cI)]) (by decide) rfl rfl ((ziD hr4).le (.k .nil)) ?_
  refine Oi (.i (w64 (a0.Plays-r4))) ?_
  refine zsk (v:=.i (max 0 (w64 (a0.Plays-r4)))) (by decide) rfl ?_
  refine Oa (.i (max 0 (w64 (a0.Plays-r4)))) ?_
  refine Oa (.i 0) ?_
  refine Ni ?_
  refine zfj [(2,.i (max 0 (w64 (a0.Plays-r4)))),(3,.i 0)] (.k (.k .nil)) ?_
  refine zaT ?_
  refine za5 (x:=.tup [.i (max 0 (w64 (a0.Plays-r4))),.i 0]) (f:=fun r=>.tup [.i r.1,.i r.2]) (.inr rfl) ?_ (.refl _) (Option.some.inj hM) hS
  exact (zdE (zae (x:=.i (max 0 (w64 (a0.Plays-r4)))) rfl) (zae (x:=.i 0) rfl))
theorem zjK {r:Wheel} (hM:zhz=some r):zaL Try.prog 95 [] (.agg [.i r.Round,.sl .no 1 (r.Notches.map cI),.sl .no 1 (r.Coins.map cI)]):=by
 refine zao mixed Try.func95 rfl (by decide) Try.ntmps95 (by simp) ?pure fun H0 g hf=>?_
 case pure=>exact .agg _ (zac (.v _) (zac (.sl _ _ (zau (fun x=>(zac (.v _) zaE)))) (zac (.sl _ _ (zau (fun x=>(zac (.v _) zaE)))) zaE)))
 rw [zaj]
 change wpA _ _ _ _ (Fr.of []) H0 g
 have hS:=St.start hf
 refine Sq ?_
 refine Rg 1 ?_
 refine zbT hS (by decide) zhC (by omega) fun H hS=>?_
 refine Ni ?_
 refine Ws ?_
 refine Sq ?_
 refine Rg 4 ?_
 refine za2 (es:=[[.i 10],[.i 20],[.i 25]]) hS (by decide) zaA zbW rfl zbP rfl (by decide) (by omega) fun H hS=>?_
 refine za2 (es:=[[.i 5],[.i 10],[.i 25]]) hS (by decide) zaA zbW rfl zbP rfl (by decide) (by omega) fun H hS=>?_
 refine zbU (cs:=[.i 50,.sl (.id (g+1+0)) 1 (([10,20,25]:List Int).map cI),.sl (.id (g+1+1)) 1 (([5,10,25]:List Int).map cI)]) (by decide) zhC zpV rfl ?_
 refine zaV (v:=.agg [.i 50,.sl (.id (g+1+0)) 1 (([10,20,25]:List Int).map cI),.sl (.id (g+1+1)) 1 (([5,10,25]:List Int).map cI)]) (ns:=[.i 50,.sl (.id (g+1+0)) 1 (([10,20,25]:List Int).map cI),.sl (.id (g+1+1)) 1 (([5,10,25]:List Int).map cI)]) (L':=[(g+1+1,.row 3 3),(g+1+0,.row 3 3),(g+0,.cells [.i 50,.sl (.id (g+1+0)) 1 (([10,20,25]:List Int).map cI),.sl (.id (g+1+1)) 1 (([5,10,25]:List Int).map cI)])]) 2 hS rfl rfl .no rfl rfl zk1 nlb rfl fun H hS=>?_
 refine Ni ?_
 refine zfj [(0,.ptr (g+0) 0)] (.k .nil) ?_
 refine zaT ?_
 refine za5 (x:=.agg [.i 50,.sl (.id (g+1+0)) 1 (([10,20,25]:List Int).map cI),.sl (.id (g+1+1)) 1 (([5,10,25]:List Int).map cI)]) (f:=fun r=>.agg [.i r.Round,.sl .no 1 (r.Notches.map cI),.sl .no 1 (r.Coins.map cI)]) (.inr rfl) ?_ (.aggL (.k (.cons (.sl _ _ _) (.cons (.sl _ _ _) .nil)))) (Option.some.inj hM) hS
 exact (zaC (zdc (x:=.agg [.i 50,.sl (.id (g+1+0)) 1 (([10,20,25]:List Int).map cI),.sl (.id (g+1+1)) 1 (([5,10,25]:List Int).map cI)]) 2 hS rfl rfl (pg zcR)))
theorem zjL {r:Box} (hM:zfX=some r):zaL Try.prog 58 [] (.agg [.i r.Wheel.Round,.sl .no 1 (r.Wheel.Notches.map cI),.sl .no 1 (r.Wheel.Coins.map cI),.sl .no 1 (r.Found.map cI),.sl .no 1 (r.Marked.map cI),.sl .no 1 (r.Slugs.map cI),.i r.Plays,.i r.Skips]):=by
 refine zao mixed Try.func58 rfl (by decide) Try.ntmps58 (by simp) ?pure fun H0 g hf=>?_
 case pure=>exact .agg _ (zac (.v _) (zac (.sl _ _ (zau (fun x=>(zac (.v _) zaE)))) (zac (.sl _ _ (zau (fun x=>(zac (.v _) zaE)))) (zac (.sl _ _ (zau (fun x=>(zac (.v _) zaE)))) (zac (.sl _ _ (zau (fun x=>(zac (.v _) zaE)))) (zac (.sl _ _ (zau (fun x=>(zac (.v _) zaE)))) (zac (.v _) (zac (.v _) zaE))))))))
 rw [zaj]
 change wpA _ _ _ _ (Fr.of []) H0 g
 have hS:=St.start hf
 refine Sq ?_
 refine Rg 1 ?_
 refine zbT hS (by decide) zfH (by omega) fun H hS=>?_
 refine Ni ?_
 refine Ws ?_
 refine Sq ?_
 refine Rg 6 ?_
 obtain ⟨r1,hr1,hM⟩:=zal hM
 refine zaD (bs:=[]) (by decide) rfl rfl ((zjK hr1).le .nil) ?_
 refine za2 (es:=[[.i 0],[.i 2],[.i 1]]) hS (by decide) zaA zbW rfl zbP rfl (by decide) (by omega) fun H hS=>?_
 refine za2 (es:=[[.i 0],[.i 1],[.i 0]]) hS (by decide) zaA zbW rfl zbP rfl (by decide) (by omega) fun H hS=>?_
 refine za2 (es:=[[.i 0],[.i 0],[.i 0]]) hS (by decide) zaA zbW rfl zbP rfl (by decide) (by omega) fun H hS=>?_
 refine zbU (cs:=[.i r1.Round,.sl .no 1 (r1.Notches.map cI),.sl .no 1 (r1.Coins.map cI),.sl (.id (g+1+1)) 1 (([0,2,1]:List Int).map cI),.sl (.id (g+1+2)) 1 (([0,1,0]:List Int).map cI),.sl (.id (g+1+3)) 1 (([0,0,0]:List Int).map cI),.i 6,.i 0]) (by decide) zfH zsx rfl ?_
 refine zaV (v:=.agg [.i r1.Round,.sl .no 1 (r1.Notches.map cI),.sl .no 1 (r1.Coins.map cI),.sl (.id (g+1+1)) 1 (([0,2,1]:List Int).map cI),.sl (.id (g+1+2)) 1 (([0,1,0]:List Int).map cI),.sl (.id (g+1+3)) 1 (([0,0,0]:List Int).map cI),.i 6,.i 0]) (ns:=[.i r1.Round,.sl .no 1 (r1.Notches.map cI),.sl .no 1 (r1.Coins.map cI),.sl (.id (g+1+1)) 1 (([0,2,1]:List Int).map cI),.sl (.id (g+1+2)) 1 (([0,1,0]:List Int).map cI),.sl (.id (g+1+3)) 1 (([0,0,0]:List Int).map cI),.i 6,.i 0]) (L':=[(g+1+3,.row 3 3),(g+1+2,.row 3 3),(g+1+1,.row 3 3),(g+0,.cells [.i r1.Round,.sl .no 1 (r1.Notches.map cI),.sl .no 1 (r1.Coins.map cI),.sl (.id (g+1+1)) 1 (([0,2,1]:List Int).map cI),.sl (.id (g+1+2)) 1 (([0,1,0]:List Int).map cI),.sl (.id (g+1+3)) 1 (([0,0,0]:List Int).map cI),.i 6,.i 0])]) 3 hS rfl rfl .no rfl rfl zhD nlb rfl fun H hS=>?_
 refine Ni ?_
 refine zfj [(0,.ptr (g+0) 0)] (.k .nil) ?_
 refine zaT ?_
 refine za5 (x:=.agg [.i r1.Round,.sl .no 1 (r1.Notches.map cI),.sl .no 1 (r1.Coins.map cI),.sl (.id (g+1+1)) 1 (([0,2,1]:List Int).map cI),.sl (.id (g+1+2)) 1 (([0,1,0]:List Int).map cI),.sl (.id (g+1+3)) 1 (([0,0,0]:List Int).map cI),.i 6,.i 0]) (f:=fun r=>.agg [.i r.Wheel.Round,.sl .no 1 (r.Wheel.Notches.map cI),.sl .no 1 (r.Wheel.Coins.map cI),.sl .no 1 (r.Found.map cI),.sl .no 1 (r.Marked.map cI),.sl .no 1 (r.Slugs.map cI),.i r.Plays,.i r.Skips]) (.inr rfl) ?_ (.aggL (.k (.k (.k (.cons (.sl _ _ _) (.cons (.sl _ _ _) (.cons (.sl _ _ _) (.k (.k .nil))))))))) (Option.some.inj hM) hS
 exact (zaC (zdc (x:=.agg [.i r1.Round,.sl .no 1 (r1.Notches.map cI),.sl .no 1 (r1.Coins.map cI),.sl (.id (g+1+1)) 1 (([0,2,1]:List Int).map cI),.sl (.id (g+1+2)) 1 (([0,1,0]:List Int).map cI),.sl (.id (g+1+3)) 1 (([0,0,0]:List Int).map cI),.i 6,.i 0]) 3 hS rfl rfl (pg zbd)))
theorem zhU {n:Nat} {r:Bool} (hM:ze7 n=some r):zaL Try.prog 16 [] (.b r):=by
 refine zao mixed Try.func16 rfl (by decide) Try.ntmps16 (by simp) ?pure fun H0 g hf=>?_
 case pure=>exact .v _
 rw [zaj]
 change wpA _ _ _ _ (Fr.of []) H0 g
 have hS:=St.start hf
 refine Sq ?_
 refine Rg 1 ?_
 refine Oa (.b false) ?_
 refine Ni ?_
 refine Ws ?_
 refine Sq ?_
 refine Rg 3 ?_
 obtain ⟨r1,hr1,hM⟩:=zal hM
 refine zaD (bs:=[]) (by decide) rfl rfl ((zjL hr1).le .nil) ?_
 refine zbT hS (by decide) zfH (by omega) fun H hS=>?_
 refine zaV (v:=.agg (Box.cells r1)) (ns:=(Box.cells r1)) (L':=[(g+1+1,.cells (Box.cells r1))]) 0 hS rfl rfl .no rfl rfl zhD nlb rfl fun H hS=>?_
 refine Ni ?_
 refine zbO (L':=[]) 0 1 hS rfl rfl rfl fun H hS=>?_
 refine Ws ?_
 refine Sq ?_
 refine Rg 7 ?_
 refine Olg (.agg (Box.cells r1)) zbd ?_
 obtain ⟨r2,hr2,hM⟩:=zal hM
 refine zaD (bs:=[.agg (Box.cells r1)]) (by decide) rfl rfl ((zf2 hr2).le (.k .nil)) ?_
 refine Om (.tup [.sl .no 1 (r2.1.map cI),.i r2.2]) ?_
 refine Ox (.sl .no 1 (r2.1.map cI)) ?_
 refine Ox (.i r2.2) ?_
 refine Oa (.sl .no 1 (r2.1.map cI)) ?_
 refine Oa (.i r2.2) ?_
 refine Ni ?_
 refine Ws ?_
 refine Sq ?_
 refine Rg 11 ?_
 refine Olg (.agg (Box.cells r1)) zbd ?_
 obtain ⟨r3,hr3,hM⟩:=zal hM
 refine zaD (bs:=[.agg (Box.cells r1)]) (by decide) rfl rfl ((zfA hr3).le (.k .nil)) ?_
 refine Om (.tup [.i r3.1,.i r3.2.1,.i r3.2.2.1,.i r3.2.2.2]) ?_
 refine Ox (.i r3.1) ?_
 refine Ox (.i r3.2.1) ?_
 refine Ox (.i r3.2.2.1) ?_
 refine Ox (.i r3.2.2.2) ?_
 refine Oa (.i r3.1) ?_
 refine Oa (.i r3.2.1) ?_
 refine Oa (.i r3.2.2.1) ?_
 refine Oa (.i r3.2.2.2) ?_
 refine Ni ?_
 refine Ws ?_
 refine Sq ?_
 refine Rg 7 ?_
 refine Olg (.agg (Box.cells r1)) zbd ?_
 obtain ⟨r4,hr4,hM⟩:=zal hM
 refine zaD (bs:=[.agg (Box.cells r1)]) (by decide) rfl rfl ((zeh hr4).le (.k .nil)) ?_
 refine Om (.tup [.i r4.1,.i r4.2]) ?_
 refine Ox (.i r4.1) ?_
 refine Ox (.i r4.2) ?_
 refine Oa (.i r4.1) ?_
 refine Oa (.i r4.2) ?_
 refine Ni ?_
 refine Ws ?_
 refine Sq ?_
 refine Rg 7 ?_
 refine Olg (.agg (Box.cells r1)) zbd ?_
 obtain ⟨r5,hr5,hM⟩:=zal hM
 refine zaD (bs:=[.agg (Box.cells r1)]) (by decide) rfl rfl ((zjJ hr5).le (.k .nil)) ?_
 refine Om (.tup [.i r5.1,.i r5.2]) ?_
 refine Ox (.i r5.1) ?_
 refine Ox (.i r5.2) ?_
 refine Oa (.i r5.1) ?_
 refine Oa (.i r5.2) ?_
 refine Ni ?_
 refine Ws ?_
 refine zbm (J:=Bool) (fun j=>[(0,.b j)]) (fun j H' g'=>St (·<g) H0 [] H' g'/\zbh j=some r) ?_ ?_
 ·rintro v6 H g1 ⟨hS,hM⟩
  change wpA _ _ _ _ (Fr.of [(0,.b v6)]) _ _
  replace hS:St (·<g) H0 [] H g1:=hS
  replace hM:zbh v6=some r:=hM
  refine zaT ?_
  refine za5 (x:=.b v6) (f:=fun r=>.b r) (.inr rfl) ?_ (.refl _) (Option.some.inj hM) hS
  exact (zaC (zae (x:=.b v6) rfl))
 ·refine Rg 36 ?_
  refine Om (.i r2.2) ?_
  refine Oi (.b (r2.2==0)) ?_
  refine Om (.b (r2.2==0)) ?_
  rcases bft (r2.2==0) with hb7 | hb7
  ·replace hM:=ifT hM hb7
   refine Oy (want:=true) hb7 ?_
   refine Om (.i r3.2.2.2) ?_
   refine Oy (want:=true) hb7 ?_
   refine Oi (.b (r3.2.2.2==0)) ?_
   refine Pt (.b (r3.2.2.2==0)) hb7 ?_
   refine Om (.b (r3.2.2.2==0)) ?_
   rcases bft (r3.2.2.2==0) with hb8 | hb8
   ·replace hM:=ifT hM hb8
    refine Oy (want:=true) hb8 ?_
    refine Om (.i r4.2) ?_
    refine Oy (want:=true) hb8 ?_
    refine Oi (.b (r4.2==0)) ?_
    refine Pt (.b (r4.2==0)) hb8 ?_
    refine Om (.b (r4.2==0)) ?_
    rcases bft (r4.2==0) with hb9 | hb9
    ·replace hM:=ifT hM hb9
     refine Oy (want:=true) hb9 ?_
     refine Om (.i r5.2) ?_
     refine Oy (want:=true) hb9 ?_
     refine Oi (.b (r5.2==0)) ?_
     refine Pt (.b (r5.2==0)) hb9 ?_
     refine Om (.b (r5.2==0)) ?_
     rcases bft (r5.2==0) with hb10 | hb10
     ·replace hM:=ifT hM hb10
      refine Oy (want:=true) hb10 ?_
      refine Om (.sl .no 1 (r2.1.map cI)) ?_
      refine Oy (want:=true) hb10 ?_
      refine za2 (es:=[[.i 3],[.i 4],[.i 5]]) hS (by decide) zaA zbW rfl zbP rfl (by decide) (by omega) fun H hS=>?_
      refine Oy (want:=true) hb10 ?_
      obtain ⟨r11,hr11,hM⟩:=zal hM
      refine zaD (bs:=[.sl .no 1 (r2.1.map cI),.sl (.id (g+1+3+7+11+7+7+16)) 1 (([3,4,5]:List Int).map cI)]) (by decide) rfl rfl ((zf7 hr11).le (.k (.cons (.sl _ _ _) .nil))) ?_
      refine Pt (.b r11) hb10 ?_
      refine Om (.b r11) ?_
      rcases bft r11 with hb12 | hb12
      ·replace hM:=ifT hM hb12
       refine Oy (want:=true) hb12 ?_
       refine Om (.i r3.1) ?_
       refine Oy (want:=true) hb12 ?_
       refine Oi (.b (r3.1==35)) ?_
       refine Pt (.b (r3.1==35)) hb12 ?_
       refine Om (.b (r3.1==35)) ?_
       rcases bft (r3.1==35) with hb13 | hb13
       ·replace hM:=ifT hM hb13
        refine Oy (want:=true) hb13 ?_
        refine Om (.i r3.2.1) ?_
        refine Oy (want:=true) hb13 ?_
        refine Oi (.b (r3.2.1==10)) ?_
        refine Pt (.b (r3.2.1==10)) hb13 ?_
        refine Om (.b (r3.2.1==10)) ?_
        rcases bft (r3.2.1==10) with hb14 | hb14
        ·replace hM:=ifT hM hb14
         refine Oy (want:=true) hb14 ?_
         refine Om (.i r4.1) ?_
         refine Oy (want:=true) hb14 ?_
         refine Oi (.b (r4.1==5)) ?_
         refine Pt (.b (r4.1==5)) hb14 ?_
         refine Om (.b (r4.1==5)) ?_
         rcases bft (r4.1==5) with hb15 | hb15
         ·replace hM:=ifT hM hb15
          refine Oy (want:=true) hb15 ?_
          refine Om (.i r5.1) ?_
          refine Oy (want:=true) hb15 ?_
          refine Oi (.b (r5.1==1)) ?_
          refine Pt (.b (r5.1==1)) hb15 ?_
          refine Oa (.b (r5.1==1)) ?_
          refine Ni ?_
          exact zap (r5.1==1) (.k .nil) ⟨(hS.keep [false] rfl).up (by omega),hM⟩
         ·replace hM:=ifF hM hb15
          refine On (want:=true) hb15 ?_
          refine On (want:=true) hb15 ?_
          refine Pf (.b false) hb15 ?_
          refine Oa (.b false) ?_
          refine Ni ?_
          exact zap false (.k .nil) ⟨(hS.keep [false] rfl).up (by omega),hM⟩
        ·replace hM:=ifF hM hb14
         refine On (want:=true) hb14 ?_
         refine On (want:=true) hb14 ?_
         refine Pf (.b false) hb14 ?_
         refine Om (.b false) ?_
         refine Og ?_
         refine Og ?_
         refine zan (v:=.b false) (e:=false) (by decide) rfl rfl rfl ?_
         refine Oa (.b false) ?_
         refine Ni ?_
         exact zap false (.k .nil) ⟨(hS.keep [false] rfl).up (by omega),hM⟩
       ·replace hM:=ifF hM hb13
        refine On (want:=true) hb13 ?_
        refine On (want:=true) hb13 ?_
        refine Pf (.b false) hb13 ?_
        refine Om (.b false) ?_
        refine Og ?_
        refine Og ?_
        refine zan (v:=.b false) (e:=false) (by decide) rfl rfl rfl ?_
        refine Om (.b false) ?_
        refine Og ?_
        refine Og ?_
        refine zan (v:=.b false) (e:=false) (by decide) rfl rfl rfl ?_
        refine Oa (.b false) ?_
        refine Ni ?_
        exact zap false (.k .nil) ⟨(hS.keep [false] rfl).up (by omega),hM⟩
      ·replace hM:=ifF hM hb12
       refine On (want:=true) hb12 ?_
       refine On (want:=true) hb12 ?_
       refine Pf (.b false) hb12 ?_
       refine Om (.b false) ?_
       refine Og ?_
       refine Og ?_
       refine zan (v:=.b false) (e:=false) (by decide) rfl rfl rfl ?_
       refine Om (.b false) ?_
       refine Og ?_
       refine Og ?_
       refine zan (v:=.b false) (e:=false) (by decide) rfl rfl rfl ?_
       refine Om (.b false) ?_
       refine Og ?_
       refine Og ?_
       refine zan (v:=.b false) (e:=false) (by decide) rfl rfl rfl ?_
       refine Oa (.b false) ?_
       refine Ni ?_
       exact zap false (.k .nil) ⟨(hS.keep [false] rfl).up (by omega),hM⟩
     ·replace hM:=ifF hM hb10
      refine On (want:=true) hb10 ?_
      refine On (want:=true) hb10 ?_
      refine On (want:=true) hb10 ?_
      refine Pf (.b false) hb10 ?_
      refine Om (.b false) ?_
      refine Og ?_
      refine Og ?_
      refine zan (v:=.b false) (e:=false) (by decide) rfl rfl rfl ?_
      refine Om (.b false) ?_
      refine Og ?_
      refine Og ?_
      refine zan (v:=.b false) (e:=false) (by decide) rfl rfl rfl ?_
      refine Om (.b false) ?_
      refine Og ?_
      refine Og ?_
      refine zan (v:=.b false) (e:=false) (by decide) rfl rfl rfl ?_
      refine Om (.b false) ?_
      refine Og ?_
      refine Og ?_
      refine zan (v:=.b false) (e:=false) (by decide) rfl rfl rfl ?_
      refine Oa (.b false) ?_
      refine Ni ?_
      exact zap false (.k .nil) ⟨(hS.keep [] rfl).up (by omega),hM⟩
    ·replace hM:=ifF hM hb9
     refine On (want:=true) hb9 ?_
     refine On (want:=true) hb9 ?_
     refine Pf (.b false) hb9 ?_
     refine Om (.b false) ?_
     refine Og ?_
     refine Og ?_
     refine Og ?_
     refine zan (v:=.b false) (e:=false) (by decide) rfl rfl rfl ?_
     refine Om (.b false) ?_
     refine Og ?_
     refine Og ?_
     refine zan (v:=.b false) (e:=false) (by decide) rfl rfl rfl ?_
     refine Om (.b false) ?_
     refine Og ?_
     refine Og ?_
     refine zan (v:=.b false) (e:=false) (by decide) rfl rfl rfl ?_
     refine Om (.b false) ?_
     refine Og ?_
     refine Og ?_
     refine zan (v:=.b false) (e:=false) (by decide) rfl rfl rfl ?_
     refine Om (.b false) ?_
     refine Og ?_
     refine Og ?_
     refine zan (v:=.b false) (e:=false) (by decide) rfl rfl rfl ?_
     refine Oa (.b false) ?_
     refine Ni ?_
     exact zap false (.k .nil) ⟨(hS.keep [] rfl).up (by omega),hM⟩
   ·replace hM:=ifF hM hb8
    refine On (want:=true) hb8 ?_
    refine On (want:=true) hb8 ?_
    refine Pf (.b false) hb8 ?_
    refine Om (.b false) ?_
    refine Og ?_
    refine Og ?_
    refine zan (v:=.b false) (e:=false) (by decide) rfl rfl rfl ?_
    refine Om (.b false) ?_
    refine Og ?_
    refine Og ?_
    refine Og ?_
    refine zan (v:=.b false) (e:=false) (by decide) rfl rfl rfl ?_
    refine Om (.b false) ?_
    refine Og ?_
    refine Og ?_
    refine zan (v:=.b false) (e:=false) (by decide) rfl rfl rfl ?_
    refine Om (.b false) ?_
    refine Og ?_
    refine Og ?_
    refine zan (v:=.b false) (e:=false) (by decide) rfl rfl rfl ?_
    refine Om (.b false) ?_
    refine Og ?_
    refine Og ?_
    refine zan (v:=.b false) (e:=false) (by decide) rfl rfl rfl ?_
    refine Om (.b false) ?_
    refine Og ?_
    refine Og ?_
    refine zan (v:=.b false) (e:=false) (by decide) rfl rfl rfl ?_
    refine Oa (.b false) ?_
    refine Ni ?_
    exact zap false (.k .nil) ⟨(hS.keep [] rfl).up (by omega),hM⟩
  ·replace hM:=ifF hM hb7
   refine On (want:=true) hb7 ?_
   refine On (want:=true) hb7 ?_
   refine Pf (.b false) hb7 ?_
   refine Om (.b false) ?_
   refine Og ?_
   refine Og ?_
   refine zan (v:=.b false) (e:=false) (by decide) rfl rfl rfl ?_
   refine Om (.b false) ?_
   refine Og ?_
   refine Og ?_
   refine zan (v:=.b false) (e:=false) (by decide) rfl rfl rfl ?_
   refine Om (.b false) ?_
   refine Og ?_
   refine Og ?_
   refine Og ?_
   refine zan (v:=.b false) (e:=false) (by decide) rfl rfl rfl ?_
   refine Om (.b false) ?_
   refine Og ?_
   refine Og ?_
   refine zan (v:=.b false) (e:=false) (by decide) rfl rfl rfl ?_
   refine Om (.b false) ?_
   refine Og ?_
   refine Og ?_
   refine zan (v:=.b false) (e:=false) (by decide) rfl rfl rfl ?_
   refine Om (.b false) ?_
   refine Og ?_
   refine Og ?_
   refine zan (v:=.b false) (e:=false) (by decide) rfl rfl rfl ?_
   refine Om (.b false) ?_
   refine Og ?_
   refine Og ?_
   refine zan (v:=.b false) (e:=false) (by decide) rfl rfl rfl ?_
   refine Oa (.b false) ?_
   refine Ni ?_
   exact zap false (.k .nil) ⟨(hS.keep [] rfl).up (by omega),hM⟩
theorem zk9 {a0:Wheel} {r:Wheel} (hM:zgN a0=some r):zrg Try.prog 59 [.agg (Wheel.cells a0)] [(some ((.int .i64 r.Round))),none,none] [(3,1,r.Notches.map cI),(3,1,r.Coins.map cI)]:=by
 refine zks mixed Try.func59 rfl (by decide) Try.ntmps59 (by simp) (zdZ (zew (fun x=>(zdp zeJ))) (zdZ (zew (fun x=>(zdp zeJ))) znA)) fun H0 g hf=>?_
 rw [zaj]
 change wpA _ _ _ _ (Fr.of [(0,.agg (Wheel.cells a0))]) H0 g
 have hS:=St.start hf
 refine Sq ?_
 refine Rg 2 ?_
 refine zcZ (v:=.agg (Wheel.cells a0)) (cs:=(Wheel.cells a0)) hS (by decide) rfl rfl (by omega) fun H hS=>?_
 refine zbT hS (by decide) zhC (by omega) fun H hS=>?_
 refine Ni ?_
 refine zbO (L':=[(g+1,.cells [.i 0,.sl .nil 0 [],.sl .nil 0 []])]) 1 1 hS rfl rfl rfl fun H hS=>?_
 refine Ws ?_
 refine Sq ?_
 have hS0:=hS
 refine zdq (n:=12) rfl (by kernel_rfl) ?_
 refine Of ((Wheel.cells a0)) zc8 ?_
 refine Olp (.i a0.Round) zah zaw ?_
 refine za2 (es:=[]) hS (by decide) zaA zbW rfl zbP rfl (by decide) (by omega) fun H hS=>?_
 refine Of ((Wheel.cells a0)) zfJ ?_
 refine Olp (.sl .no 1 (a0.Notches.map cI)) zar zaH ?_
 obtain ⟨l1,hl1,hM⟩:=zal hM
 refine zeN (xs:=([]:List Int)) (ys:=a0.Notches) (zs:=l1) (f:=cI) (L':=[(g+2+2,.row 3 l1.length),(g+1,.cells [.i 0,.sl .nil 0 [],.sl .nil 0 []])]) 0 hS (by decide) rfl rfl rfl rfl (.behind (by kernel_rfl)) zaA zbW zbP hl1 rfl fun H hS=>?_
 refine za2 (es:=[]) hS (by decide) zaA zbW rfl zbP rfl (by decide) (by omega) fun H hS=>?_
 refine Of ((Wheel.cells a0)) zcq ?_
 refine Olp (.sl .no 1 (a0.Coins.map cI)) zar zaH ?_
 obtain ⟨l2,hl2,hM⟩:=zal hM
 refine zeN (xs:=([]:List Int)) (ys:=a0.Coins) (zs:=l2) (f:=cI) (L':=[(g+2+6,.row 3 l2.length),(g+2+2,.row 3 l1.length),(g+1,.cells [.i 0,.sl .nil 0 [],.sl .nil 0 []])]) 0 hS (by decide) rfl rfl rfl rfl (.behind (by kernel_rfl)) zaA zbW zbP hl2 rfl fun H hS=>?_
 refine zbU (cs:=[.i a0.Round,.sl (.id (g+2+2)) 1 (l1.map cI),.sl (.id (g+2+6)) 1 (l2.map cI)]) (by decide) zhC zpV rfl ?_
 refine zaV (v:=.agg [.i a0.Round,.sl (.id (g+2+2)) 1 (l1.map cI),.sl (.id (g+2+6)) 1 (l2.map cI)]) (ns:=[.i a0.Round,.sl (.id (g+2+2)) 1 (l1.map cI),.sl (.id (g+2+6)) 1 (l2.map cI)]) (L':=[(g+2+6,.row 3 l2.length),(g+2+2,.row 3 l1.length),(g+1,.cells [.i a0.Round,.sl (.id (g+2+2)) 1 (l1.map cI),.sl (.id (g+2+6)) 1 (l2.map cI)])]) 2 hS rfl rfl (.st hS0 0 rfl (by omega)) rfl rfl zk1 nlb rfl fun H hS=>?_
 refine Ni ?_
 refine zfj [(2,.ptr (g+1) 0)] (.k .nil) ?_
 refine zaT ?_
 obtain rfl:=Option.some.inj hM
 refine zrW (tm:=[(some ((.int .i64 a0.Round))),none,none]) (ds:=[(3,1,l1.map cI),(3,1,l2.map cI)]) (x:=.agg [.i a0.Round,.sl (.id (g+2+2)) 1 (l1.map cI),.sl (.id (g+2+6)) 1 (l2.map cI)]) [g+2+2,g+2+6] [1,0] (.inr rfl) ?_ rfl hS (.cons rfl (by simp) (.cons rfl (by simp) .nil)) (by decide)
 exact (zaC (zdc (x:=.agg [.i a0.Round,.sl (.id (g+2+2)) 1 (l1.map cI),.sl (.id (g+2+6)) 1 (l2.map cI)]) 2 hS rfl rfl (pg zcR)))
theorem zla {a0:Box} {r:Box} (hM:zgO a0=some r):zrg Try.prog 17 [.agg (Box.cells a0)] [(some ((.int .i64 r.Wheel.Round))),none,none,none,none,none,(some ((.int .i64 r.Plays))),(some ((.int .i64 r.Skips)))] [(3,1,r.Wheel.Notches.map cI),(3,1,r.Wheel.Coins.map cI),(3,1,r.Found.map cI),(3,1,r.Marked.map cI),(3,1,r.Slugs.map cI)]:=by
 refine zks mixed Try.func17 rfl (by decide) Try.ntmps17 (by simp) (zdZ (zew (fun x=>(zdp zeJ))) (zdZ (zew (fun x=>(zdp zeJ))) (zdZ (zew (fun x=>(zdp zeJ))) (zdZ (zew (fun x=>(zdp zeJ))) (zdZ (zew (fun x=>(zdp zeJ))) znA))))) fun H0 g hf=>?_
 rw [zaj]
 change wpA _ _ _ _ (Fr.of [(0,.agg (Box.cells a0))]) H0 g
 have hS:=St.start hf
 refine Sq ?_
 refine Rg 2 ?_
 refine zcZ (v:=.agg (Box.cells a0)) (cs:=(Box.cells a0)) hS (by decide) rfl rfl (by omega) fun H hS=>?_
 refine zbT hS (by decide) zfH (by omega) fun H hS=>?_
 refine Ni ?_
 refine zbO (L':=[(g+1,.cells [.i 0,.sl .nil 0 [],.sl .nil 0 [],.sl .nil 0 [],.sl .nil 0 [],.sl .nil 0 [],.i 0,.i 0])]) 1 1 hS rfl rfl rfl fun H hS=>?_
 refine Ws ?_
 refine Sq ?_
 refine Rg 3 ?_
 refine Olg (.agg (Box.cells a0)) zbd ?_
 refine zbT hS (by decide) zfH (by omega) fun H hS=>?_
 refine zaV (v:=.agg (Box.cells a0)) (ns:=(Box.cells a0)) (L':=[(g+2+1,.cells (Box.cells a0)),(g+1,.cells [.i 0,.sl .nil 0 [],.sl .nil 0 [],.sl .nil 0 [],.sl .nil 0 [],.sl .nil 0 [],.i 0,.i 0])]) 0 hS rfl rfl .no rfl rfl zhD nlb rfl fun H hS=>?_
 refine Ni ?_
 refine Ws ?_
 refine Sq ?_
 refine Rg 5 ?_
 refine Of ((Box.cells a0)) zb0 ?_
 refine Olg (.agg (Wheel.cells a0.Wheel)) zcR ?_
 obtain ⟨r1,hr1,hM⟩:=zal hM
 refine zwf (tm:=[(some ((.int .i64 r1.Round))),none,none]) (rs:=[(3,1,r1.Notches.map cI),(3,1,r1.Coins.map cI)]) (bs:=[.agg (Wheel.cells a0.Wheel)]) (.inl rfl) hS (by decide) rfl rfl ((zk9 hr1).le (.k .nil)) (zac (.agg _ (zac (.v _) (zac (.sl _ _ (zau (fun x=>(zac (.v _) zaE)))) (zac (.sl _ _ (zau (fun x=>(zac (.v _) zaE)))) zaE)))) zaE) (zdZ (zew (fun x=>(zdp zeJ))) (zdZ (zew (fun x=>(zdp zeJ))) znA)) rfl [.row,.row] rfl 2 rfl (by omega) fun H hS hU=>?_
 replace hS:St (·<g) H0 [(g+2+3+5,.row 3 (r1.Notches.map cI).length),(g+2+3+5+1,.row 3 (r1.Coins.map cI).length),(g+2+1,.cells (Box.cells a0)),(g+1,.cells [.i 0,.sl .nil 0 [],.sl .nil 0 [],.sl .nil 0 [],.sl .nil 0 [],.sl .nil 0 [],.i 0,.i 0])] _ _:=hS
 change zaK _ _ _ _ _ _ _ _ (Fr.of ((7,.agg [.i r1.Round,.sl (.id (g+2+3+5)) 1 (r1.Notches.map cI),.sl (.id (g+2+3+5+1)) 1 (r1.Coins.map cI)])::_)) _ _
 refine zaB (by decide) zb0 rfl ?_
 refine zaV (v:=.agg [.i r1.Round,.sl (.id (g+2+3+5)) 1 (r1.Notches.map cI),.sl (.id (g+2+3+5+1)) 1 (r1.Coins.map cI)]) (ns:=[.i r1.Round,.sl (.id (g+2+3+5)) 1 (r1.Notches.map cI),.sl (.id (g+2+3+5+1)) 1 (r1.Coins.map cI)]) (L':=[(g+2+3+5,.row 3 (r1.Notches.map cI).length),(g+2+3+5+1,.row 3 (r1.Coins.map cI).length),(g+2+1,.cells [.i r1.Round,.sl (.id (g+2+3+5)) 1 (r1.Notches.map cI),.sl (.id (g+2+3+5+1)) 1 (r1.Coins.map cI),.sl .no 1 (a0.Found.map cI),.sl .no 1 (a0.Marked.map cI),.sl .no 1 (a0.Slugs.map cI),.i a0.Plays,.i a0.Skips]),(g+1,.cells [.i 0,.sl .nil 0 [],.sl .nil 0 [],.sl .nil 0 [],.sl .nil 0 [],.sl .nil 0 [],.i 0,.i 0])]) 2 hS rfl rfl .no rfl rfl zk1 nlb rfl fun H hS=>?_
 refine Ni ?_
 refine Ws ?_
 refine Sq ?_
 have hS0:=hS
 refine zdq (n:=18) rfl (by kernel_rfl) ?_
 refine za2 (es:=[]) hS (by decide) zaA zbW rfl zbP rfl (by decide) (by omega) fun H hS=>?_
 refine Of ((Box.cells a0)) zb5 ?_
 refine Olp (.sl .no 1 (a0.Found.map cI)) zar zaH ?_
 obtain ⟨l2,hl2,hM⟩:=zal hM
 refine zeN (xs:=([]:List Int)) (ys:=a0.Found) (zs:=l2) (f:=cI) (L':=[(g+2+3+5+2+0,.row 3 l2.length),(g+2+3+5,.row 3 (r1.Notches.map cI).length),(g+2+3+5+1,.row 3 (r1.Coins.map cI).length),(g+2+1,.cells [.i r1.Round,.sl (.id (g+2+3+5)) 1 (r1.Notches.map cI),.sl (.id (g+2+3+5+1)) 1 (r1.Coins.map cI),.sl .no 1 (a0.Found.map cI),.sl .no 1 (a0.Marked.map cI),.sl .no 1 (a0.Slugs.map cI),.i a0.Plays,.i a0.Skips]),(g+1,.cells [.i 0,.sl .nil 0 [],.sl .nil 0 [],.sl .nil 0 [],.sl .nil 0 [],.sl .nil 0 [],.i 0,.i 0])]) 0 hS (by decide) rfl rfl rfl rfl (.behind (by kernel_rfl)) zaA zbW zbP hl2 rfl fun H hS=>?_
 refine za2 (es:=[]) hS (by decide) zaA zbW rfl zbP rfl (by decide) (by omega) fun H hS=>?_
 refine Of ((Box.cells a0)) zeA ?_
 refine Olp (.sl .no 1 (a0.Marked.map cI)) zar zaH ?_
 obtain ⟨l3,hl3,hM⟩:=zal hM
 refine zeN (xs:=([]:List Int)) (ys:=a0.Marked) (zs:=l3) (f:=cI) (L':=[(g+2+3+5+2+4,.row 3 l3.length),(g+2+3+5+2+0,.row 3 l2.length),(g+2+3+5,.row 3 (r1.Notches.map cI).length),(g+2+3+5+1,.row 3 (r1.Coins.map cI).length),(g+2+1,.cells [.i r1.Round,.sl (.id (g+2+3+5)) 1 (r1.Notches.map cI),.sl (.id (g+2+3+5+1)) 1 (r1.Coins.map cI),.sl .no 1 (a0.Found.map cI),.sl .no 1 (a0.Marked.map cI),.sl .no 1 (a0.Slugs.map cI),.i a0.Plays,.i a0.Skips]),(g+1,.cells [.i 0,.sl .nil 0 [],.sl .nil 0 [],.sl .nil 0 [],.sl .nil 0 [],.sl .nil 0 [],.i 0,.i 0])]) 0 hS (by decide) rfl rfl rfl rfl (.behind (by kernel_rfl)) zaA zbW zbP hl3 rfl fun H hS=>?_
 refine za2 (es:=[]) hS (by decide) zaA zbW rfl zbP rfl (by decide) (by omega) fun H hS=>?_
 refine Of ((Box.cells a0)) zcr ?_
 refine Olp (.sl .no 1 (a0.Slugs.map cI)) zar zaH ?_
 obtain ⟨l4,hl4,hM⟩:=zal hM
 refine zeN (xs:=([]:List Int)) (ys:=a0.Slugs) (zs:=l4) (f:=cI) (L':=[(g+2+3+5+2+8,.row 3 l4.length),(g+2+3+5+2+4,.row 3 l3.length),(g+2+3+5+2+0,.row 3 l2.length),(g+2+3+5,.row 3 (r1.Notches.map cI).length),(g+2+3+5+1,.row 3 (r1.Coins.map cI).length),(g+2+1,.cells [.i r1.Round,.sl (.id (g+2+3+5)) 1 (r1.Notches.map cI),.sl (.id (g+2+3+5+1)) 1 (r1.Coins.map cI),.sl .no 1 (a0.Found.map cI),.sl .no 1 (a0.Marked.map cI),.sl .no 1 (a0.Slugs.map cI),.i a0.Plays,.i a0.Skips]),(g+1,.cells [.i 0,.sl .nil 0 [],.sl .nil 0 [],.sl .nil 0 [],.sl .nil 0 [],.sl .nil 0 [],.i 0,.i 0])]) 0 hS (by decide) rfl rfl rfl rfl (.behind (by kernel_rfl)) zaA zbW zbP hl4 rfl fun H hS=>?_
 refine zaB (by decide) zb5 rfl ?_
 refine zaV (v:=.sl (.id (g+2+3+5+2+0)) 1 (l2.map cI)) (ns:=[.sl (.id (g+2+3+5+2+0)) 1 (l2.map cI)]) (L':=[(g+2+3+5+2+8,.row 3 l4.length),(g+2+3+5+2+4,.row 3 l3.length),(g+2+3+5+2+0,.row 3 l2.length),(g+2+3+5,.row 3 (r1.Notches.map cI).length),(g+2+3+5+1,.row 3 (r1.Coins.map cI).length),(g+2+1,.cells [.i r1.Round,.sl (.id (g+2+3+5)) 1 (r1.Notches.map cI),.sl (.id (g+2+3+5+1)) 1 (r1.Coins.map cI),.sl (.id (g+2+3+5+2+0)) 1 (l2.map cI),.sl .no 1 (a0.Marked.map cI),.sl .no 1 (a0.Slugs.map cI),.i a0.Plays,.i a0.Skips]),(g+1,.cells [.i 0,.sl .nil 0 [],.sl .nil 0 [],.sl .nil 0 [],.sl .nil 0 [],.sl .nil 0 [],.i 0,.i 0])]) 5 hS rfl rfl (.st hS0 2 rfl (by omega)) rfl rfl zk0 nlb rfl fun H hS=>?_
 refine zaB (by decide) zeA rfl ?_
 refine zaV (v:=.sl (.id (g+2+3+5+2+4)) 1 (l3.map cI)) (ns:=[.sl (.id (g+2+3+5+2+4)) 1 (l3.map cI)]) (L':=[(g+2+3+5+2+8,.row 3 l4.length),(g+2+3+5+2+4,.row 3 l3.length),(g+2+3+5+2+0,.row 3 l2.length),(g+2+3+5,.row 3 (r1.Notches.map cI).length),(g+2+3+5+1,.row 3 (r1.Coins.map cI).length),(g+2+1,.cells [.i r1.Round,.sl (.id (g+2+3+5)) 1 (r1.Notches.map cI),.sl (.id (g+2+3+5+1)) 1 (r1.Coins.map cI),.sl (.id (g+2+3+5+2+0)) 1 (l2.map cI),.sl (.id (g+2+3+5+2+4)) 1 (l3.map cI),.sl .no 1 (a0.Slugs.map cI),.i a0.Plays,.i a0.Skips]),(g+1,.cells [.i 0,.sl .nil 0 [],.sl .nil 0 [],.sl .nil 0 [],.sl .nil 0 [],.sl .nil 0 [],.i 0,.i 0])]) 5 hS rfl rfl (.st hS0 2 rfl (by omega)) rfl rfl zk0 nlb rfl fun H hS=>?_
 refine zaB (by decide) zcr rfl ?_
 refine zaV (v:=.sl (.id (g+2+3+5+2+8)) 1 (l4.map cI)) (ns:=[.sl (.id (g+2+3+5+2+8)) 1 (l4.map cI)]) (L':=[(g+2+3+5+2+8,.row 3 l4.length),(g+2+3+5+2+4,.row 3 l3.length),(g+2+3+5+2+0,.row 3 l2.length),(g+2+3+5,.row 3 (r1.Notches.map cI).length),(g+2+3+5+1,.row 3 (r1.Coins.map cI).length),(g+2+1,.cells [.i r1.Round,.sl (.id (g+2+3+5)) 1 (r1.Notches.map cI),.sl (.id (g+2+3+5+1)) 1 (r1.Coins.map cI),.sl (.id (g+2+3+5+2+0)) 1 (l2.map cI),.sl (.id (g+2+3+5+2+4)) 1 (l3.map cI),.sl (.id (g+2+3+5+2+8)) 1 (l4.map cI),.i a0.Plays,.i a0.Skips]),(g+1,.cells [.i 0,.sl .nil 0 [],.sl .nil 0 [],.sl .nil 0 [],.sl .nil 0 [],.sl .nil 0 [],.i 0,.i 0])]) 5 hS rfl rfl (.st hS0 2 rfl (by omega)) rfl rfl zk0 nlb rfl fun H hS=>?_
 refine Ni ?_
 refine Ws ?_
 refine Sq ?_
 refine Rg 2 ?_
 refine zaQ (v:=.agg [.i r1.Round,.sl (.id (g+2+3+5)) 1 (r1.Notches.map cI),.sl (.id (g+2+3+5+1)) 1 (r1.Coins.map cI),.sl (.id (g+2+3+5+2+0)) 1 (l2.map cI),.sl (.id (g+2+3+5+2+4)) 1 (l3.map cI),.sl (.id (g+2+3+5+2+8)) 1 (l4.map cI),.i a0.Plays,.i a0.Skips]) 5 hS (by decide) rfl rfl .no (pg zbd) ?_
 refine zaV (v:=.agg [.i r1.Round,.sl (.id (g+2+3+5)) 1 (r1.Notches.map cI),.sl (.id (g+2+3+5+1)) 1 (r1.Coins.map cI),.sl (.id (g+2+3+5+2+0)) 1 (l2.map cI),.sl (.id (g+2+3+5+2+4)) 1 (l3.map cI),.sl (.id (g+2+3+5+2+8)) 1 (l4.map cI),.i a0.Plays,.i a0.Skips]) (ns:=[.i r1.Round,.sl (.id (g+2+3+5)) 1 (r1.Notches.map cI),.sl (.id (g+2+3+5+1)) 1 (r1.Coins.map cI),.sl (.id (g+2+3+5+2+0)) 1 (l2.map cI),.sl (.id (g+2+3+5+2+4)) 1 (l3.map cI),.sl (.id (g+2+3+5+2+8)) 1 (l4.map cI),.i a0.Plays,.i a0.Skips]) (L':=[(g+2+3+5+2+8,.row 3 l4.length),(g+2+3+5+2+4,.row 3 l3.length),(g+2+3+5+2+0,.row 3 l2.length),(g+2+3+5,.row 3 (r1.Notches.map cI).length),(g+2+3+5+1,.row 3 (r1.Coins.map cI).length),(g+2+1,.cells [.i r1.Round,.sl (.id (g+2+3+5)) 1 (r1.Notches.map cI),.sl (.id (g+2+3+5+1)) 1 (r1.Coins.map cI),.sl (.id (g+2+3+5+2+0)) 1 (l2.map cI),.sl (.id (g+2+3+5+2+4)) 1 (l3.map cI),.sl (.id (g+2+3+5+2+8)) 1 (l4.map cI),.i a0.Plays,.i a0.Skips]),(g+1,.cells [.i r1.Round,.sl (.id (g+2+3+5)) 1 (r1.Notches.map cI),.sl (.id (g+2+3+5+1)) 1 (r1.Coins.map cI),.sl (.id (g+2+3+5+2+0)) 1 (l2.map cI),.sl (.id (g+2+3+5+2+4)) 1 (l3.map cI),.sl (.id (g+2+3+5+2+8)) 1 (l4.map cI),.i a0.Plays,.i a0.Skips])]) 6 hS rfl rfl .no rfl rfl zhD nlb rfl fun H hS=>?_
 refine Ni ?_
 replace hS:=hS.keep (L':=[(g+2+3+5+2+8,.row 3 l4.length),(g+2+3+5+2+4,.row 3 l3.length),(g+2+3+5+2+0,.row 3 l2.length),(g+2+3+5,.row 3 (r1.Notches.map cI).length),(g+2+3+5+1,.row 3 (r1.Coins.map cI).length),(g+1,.cells [.i r1.Round,.sl (.id (g+2+3+5)) 1 (r1.Notches.map cI),.sl (.id (g+2+3+5+1)) 1 (r1.Coins.map cI),.sl (.id (g+2+3+5+2+0)) 1 (l2.map cI),.sl (.id (g+2+3+5+2+4)) 1 (l3.map cI),.sl (.id (g+2+3+5+2+8)) 1 (l4.map cI),.i a0.Plays,.i a0.Skips])]) [true,true,true,true,true,false,true] rfl
 refine Ws ?_
 refine zaT ?_
 obtain rfl:=Option.some.inj hM
 refine zrW (tm:=[(some ((.int .i64 r1.Round))),none,none,none,none,none,(some ((.int .i64 a0.Plays))),(some ((.int .i64 a0.Skips)))]) (ds:=[(3,1,r1.Notches.map cI),(3,1,r1.Coins.map cI),(3,1,l2.map cI),(3,1,l3.map cI),(3,1,l4.map cI)]) (x:=.agg [.i r1.Round,.sl (.id (g+2+3+5)) 1 (r1.Notches.map cI),.sl (.id (g+2+3+5+1)) 1 (r1.Coins.map cI),.sl (.id (g+2+3+5+2+0)) 1 (l2.map cI),.sl (.id (g+2+3+5+2+4)) 1 (l3.map cI),.sl (.id (g+2+3+5+2+8)) 1 (l4.map cI),.i a0.Plays,.i a0.Skips]) [g+2+3+5,g+2+3+5+1,g+2+3+5+2+0,g+2+3+5+2+4,g+2+3+5+2+8] [3,4,2,1,0] (.inr rfl) ?_ rfl hS (.cons rfl (by simp) (.cons rfl (by simp) (.cons rfl (by simp) (.cons rfl (by simp) (.cons rfl (by simp) .nil))))) (by decide)
 exact (zaC (zdc (x:=.agg [.i r1.Round,.sl (.id (g+2+3+5)) 1 (r1.Notches.map cI),.sl (.id (g+2+3+5+1)) 1 (r1.Coins.map cI),.sl (.id (g+2+3+5+2+0)) 1 (l2.map cI),.sl (.id (g+2+3+5+2+4)) 1 (l3.map cI),.sl (.id (g+2+3+5+2+8)) 1 (l4.map cI),.i a0.Plays,.i a0.Skips]) 5 hS rfl rfl (pg zbd)))
theorem zgX {n:Nat} {a0:Box} {a1:Int} {r:Bool} (hM:zdY n a0 a1=some r):zaL Try.prog 3 [.agg (Box.cells a0),.i a1] (.b r):=by
 refine zao mixed Try.func3 rfl (by decide) Try.ntmps3 (by simp) ?pure fun H0 g hf=>?_
 case pure=>exact .v _
 rw [zaj]
 change wpA _ _ _ _ (Fr.of [(0,.agg (Box.cells a0)),(1,.i a1)]) H0 g
 have hS:=St.start hf
 refine Sq ?_
 refine Rg 2 ?_
 refine zcZ (v:=.agg (Box.cells a0)) (cs:=(Box.cells a0)) hS (by decide) rfl rfl (by omega) fun H hS=>?_
 refine Oa (.b false) ?_
 refine Ni ?_
 refine zbO (L':=[]) 0 2 hS rfl rfl rfl fun H hS=>?_
 refine Ws ?_
 refine Sq ?_
 refine zbm (J:=Bool) (fun j=>[(1,.i a1),(2,.ep (Box.cells a0)),(44,.b j)]) (fun j H' g'=>St (·<g) H0 [] H' g'/\zaU n a0 a1 j=some r) ?_ ?_
 ·rintro v1 H g1 ⟨hS,hM⟩
  change wpA _ _ _ _ (Fr.of [(1,.i a1),(2,.ep (Box.cells a0)),(44,.b v1)]) _ _
  replace hS:St (·<g) H0 [] H g1:=hS
  replace hM:zaU n a0 a1 v1=some r:=hM
  rcases bft v1 with hb2 | hb2
  ·replace hM:=ifT hM hb2
   refine Ct hb2 ?_
   refine Sq ?_
   refine Rg 2 ?_
   obtain ⟨r3,hr3,hM⟩:=zal hM
   refine zaD (bs:=[]) (by decide) rfl rfl ((zhU hr3).le .nil) ?_
   refine Oa (.b r3) ?_
   refine Ni ?_
   refine Ws ?_
   refine zaT ?_
   refine zax ?_
   refine za5 (x:=.b r3) (f:=fun r=>.b r) (.inr rfl) ?_ (.refl _) (Option.some.inj hM) hS
   exact (zaC (zae (x:=.b r3) rfl))
  ·replace hM:=ifF hM hb2
   refine Cf hb2 ?_
   refine zaO ?_
   refine Ws ?_
   refine Sq ?_
   refine Rg 4 ?_
   refine Olg (.agg (Box.cells a0)) zbd ?_
   obtain ⟨r4,hr4,hM⟩:=zal hM
   refine zwf (tm:=[(some ((.int .i64 r4.Wheel.Round))),none,none,none,none,none,(some ((.int .i64 r4.Plays))),(some ((.int .i64 r4.Skips)))]) (rs:=[(3,1,r4.Wheel.Notches.map cI),(3,1,r4.Wheel.Coins.map cI),(3,1,r4.Found.map cI),(3,1,r4.Marked.map cI),(3,1,r4.Slugs.map cI)]) (bs:=[.agg (Box.cells a0)]) (.inl rfl) hS (by decide) rfl rfl ((zla hr4).le (.k .nil)) (zac (.agg _ (zac (.v _) (zac (.sl _ _ (zau (fun x=>(zac (.v _) zaE)))) (zac (.sl _ _ (zau (fun x=>(zac (.v _) zaE)))) (zac (.sl _ _ (zau (fun x=>(zac (.v _) zaE)))) (zac (.sl _ _ (zau (fun x=>(zac (.v _) zaE)))) (zac (.sl _ _ (zau (fun x=>(zac (.v _) zaE)))) (zac (.v _) (zac (.v _) zaE))))))))) zaE) (zdZ (zew (fun x=>(zdp zeJ))) (zdZ (zew (fun x=>(zdp zeJ))) (zdZ (zew (fun x=>(zdp zeJ))) (zdZ (zew (fun x=>(zdp zeJ))) (zdZ (zew (fun x=>(zdp zeJ))) znA))))) rfl [.no,.no,.ms,.no,.ms] rfl 5 rfl (by omega) fun H hS hU=>?_
   replace hS:St (·<g) H0 ((zd5 (g1+4+1+1) (r4.Found.map cI).length (r4.Found.map cI)++(zd5 (g1+4+1+1+1+1) (r4.Slugs.map cI).length (r4.Slugs.map cI)++[]))++[]) _ _:=hS
   replace hS:=hS.endM2
   change zaK _ _ _ _ _ _ _ _ (Fr.of ((47,.agg [.i r4.Wheel.Round,.sl .no 1 (r4.Wheel.Notches.map cI),.sl .no 1 (r4.Wheel.Coins.map cI),msn (g1+4+1+1) 1 (r4.Found.map cI).length,.sl .no 1 (r4.Marked.map cI),msn (g1+4+1+1+1+1) 1 (r4.Slugs.map cI).length,.i r4.Plays,.i r4.Skips])::_)) _ _
   refine zq8 hS hU (by decide) zfH (by omega) (by omega) (by omega) fun H hS hU=>?_
   refine zaV (v:=.agg [.i r4.Wheel.Round,.sl .no 1 (r4.Wheel.Notches.map cI),.sl .no 1 (r4.Wheel.Coins.map cI),msn (g1+4+1+1) 1 (r4.Found.map cI).length,.sl .no 1 (r4.Marked.map cI),msn (g1+4+1+1+1+1) 1 (r4.Slugs.map cI).length,.i r4.Plays,.i r4.Skips]) (ns:=[.i r4.Wheel.Round,.sl .no 1 (r4.Wheel.Notches.map cI),.sl .no 1 (r4.Wheel.Coins.map cI),msn (g1+4+1+1) 1 (r4.Found.map cI).length,.sl .no 1 (r4.Marked.map cI),msn (g1+4+1+1+1+1) 1 (r4.Slugs.map cI).length,.i r4.Plays,.i r4.Skips]) (L':=(([(g1+2,.cells [.i r4.Wheel.Round,.sl .no 1 (r4.Wheel.Notches.map cI),.sl .no 1 (r4.Wheel.Coins.map cI),msn (g1+4+1+1) 1 (r4.Found.map cI).length,.sl .no 1 (r4.Marked.map cI),msn (g1+4+1+1+1+1) 1 (r4.Slugs.map cI).length,.i r4.Plays,.i r4.Skips])]++zd5 (g1+4+1+1) (r4.Found.map cI).length (r4.Found.map cI))++zd5 (g1+4+1+1+1+1) (r4.Slugs.map cI).length (r4.Slugs.map cI))) 0 hS rfl rfl .no rfl rfl zhD nlb rfl fun H hS=>?_
   refine Ni ?_
   refine Ws ?_
   refine Sq ?_
   refine Rg 8 ?_
   refine zaB (by decide) zcr rfl ?_
   refine zaQ (v:=msn (g1+4+1+1+1+1) 1 (r4.Slugs.map cI).length) 0 hS (by decide) rfl rfl .no (po zar zaH) ?_
   refine Om (.i a1) ?_
   obtain ⟨x5,hx5,hM⟩:=zal hM
   refine zfn (xs:=r4.Slugs) (f:=cI) (z:=a1) (u:=x5) hS (by decide) rfl rfl zaA hx5 ?_
   refine zkT (xs:=r4.Slugs) (z:=a1) (u:=x5) hS (by decide) rfl hx5 .no zah zaw ?_
   refine Oi (.i (w64 (x5-1))) ?_
   obtain ⟨x6,hx6,hM⟩:=zal hM
   refine zfn (xs:=r4.Slugs) (f:=cI) (z:=a1) (u:=x6) hS (by decide) rfl rfl zaA hx6 ?_
   refine ziL (xs:=r4.Slugs) (z:=a1) (u:=x6) (v:=(w64 (x5-1))) hS rfl hx6 .no rfl zgt fun H hS=>?_
   refine Ni ?_
   refine Ws ?_
   refine Sq ?_
   refine Rg 8 ?_
   refine zaB (by decide) zb5 rfl ?_
   refine zaQ (v:=msn (g1+4+1+1) 1 (r4.Found.map cI).length) 0 hS (by decide) rfl rfl .no (po zar zaH) ?_
   refine Om (.i a1) ?_
   obtain ⟨x7,hx7,hM⟩:=zal hM
   replace hS:=hS.rot2
   refine zfn (xs:=r4.Found) (f:=cI) (z:=a1) (u:=x7) hS (by decide) rfl rfl zaA hx7 ?_
   refine zkT (xs:=r4.Found) (z:=a1) (u:=x7) hS (by decide) rfl hx7 .no zah zaw ?_
   refine Oi (.i (w64 (x7+1))) ?_
   obtain ⟨x8,hx8,hM⟩:=zal hM
   refine zfn (xs:=r4.Found) (f:=cI) (z:=a1) (u:=x8) hS (by decide) rfl rfl zaA hx8 ?_
   refine ziL (xs:=r4.Found) (z:=a1) (u:=x8) (v:=(w64 (x7+1))) hS rfl hx8 .no rfl zgt fun H hS=>?_
   refine Ni ?_
   refine zrS (k:=1) (p:=3) (es:=(r4.Found.set (Int.toNat a1) (w64 (x7+1))).map cI) (cs':=[.i r4.Wheel.Round,.sl .no 1 (r4.Wheel.Notches.map cI),.sl .no 1 (r4.Wheel.Coins.map cI),.sl .no 1 ((r4.Found.set (Int.toNat a1) (w64 (x7+1))).map cI),.sl .no 1 (r4.Marked.map cI),msn (g1+4+1+1+1+1) 1 (r4.Slugs.map cI).length,.i r4.Plays,.i r4.Skips]) (Lp':=([(g1+2,.cells [.i r4.Wheel.Round,.sl .no 1 (r4.Wheel.Notches.map cI),.sl .no 1 (r4.Wheel.Coins.map cI),.sl .no 1 ((r4.Found.set (Int.toNat a1) (w64 (x7+1))).map cI),.sl .no 1 (r4.Marked.map cI),msn (g1+4+1+1+1+1) 1 (r4.Slugs.map cI).length,.i r4.Plays,.i r4.Skips])]++zd5 (g1+4+1+1+1+1) (r4.Slugs.map cI).length ((r4.Slugs.set (Int.toNat a1) (w64 (x5-1))).map cI))) 0 hS.thaw rfl (congrArg some (zpJ hS.len).symm) (by decide) (zno (fun _=>rfl)) (zew (fun x=>(zdp zeJ))) rfl rfl fun H hS=>?_
   refine zrS (k:=1) (p:=5) (es:=(r4.Slugs.set (Int.toNat a1) (w64 (x5-1))).map cI) (cs':=[.i r4.Wheel.Round,.sl .no 1 (r4.Wheel.Notches.map cI),.sl .no 1 (r4.Wheel.Coins.map cI),.sl .no 1 ((r4.Found.set (Int.toNat a1) (w64 (x7+1))).map cI),.sl .no 1 (r4.Marked.map cI),.sl .no 1 ((r4.Slugs.set (Int.toNat a1) (w64 (x5-1))).map cI),.i r4.Plays,.i r4.Skips]) (Lp':=[(g1+2,.cells [.i r4.Wheel.Round,.sl .no 1 (r4.Wheel.Notches.map cI),.sl .no 1 (r4.Wheel.Coins.map cI),.sl .no 1 ((r4.Found.set (Int.toNat a1) (w64 (x7+1))).map cI),.sl .no 1 (r4.Marked.map cI),.sl .no 1 ((r4.Slugs.set (Int.toNat a1) (w64 (x5-1))).map cI),.i r4.Plays,.i r4.Skips])]) 0 hS.thaw rfl (congrArg some (zpJ hS.len).symm) (by decide) (zno (fun _=>rfl)) (zew (fun x=>(zdp zeJ))) rfl rfl fun H hS=>?_
   refine Ws ?_
   refine Sq ?_
   refine Rg 7 ?_
   refine Olg (.agg (Box.cells a0)) zbd ?_
   obtain ⟨r9,hr9,hM⟩:=zal hM
   refine zaD (bs:=[.agg (Box.cells a0)]) (by decide) rfl rfl ((zf2 hr9).le (.k .nil)) ?_
   refine Om (.tup [.sl .no 1 (r9.1.map cI),.i r9.2]) ?_
   refine Ox (.sl .no 1 (r9.1.map cI)) ?_
   refine Ox (.i r9.2) ?_
   refine Oa (.sl .no 1 (r9.1.map cI)) ?_
   refine Oa (.i r9.2) ?_
   refine Ni ?_
   refine Ws ?_
   refine Sq ?_
   refine Rg 7 ?_
   refine zaQ (v:=.agg [.i r4.Wheel.Round,.sl .no 1 (r4.Wheel.Notches.map cI),.sl .no 1 (r4.Wheel.Coins.map cI),.sl .no 1 ((r4.Found.set (Int.toNat a1) (w64 (x7+1))).map cI),.sl .no 1 (r4.Marked.map cI),.sl .no 1 ((r4.Slugs.set (Int.toNat a1) (w64 (x5-1))).map cI),.i r4.Plays,.i r4.Skips]) 0 hS (by decide) rfl rfl .no (pg zbd) ?_
   obtain ⟨r10,hr10,hM⟩:=zal hM
   refine zaD (bs:=[.agg [.i r4.Wheel.Round,.sl .no 1 (r4.Wheel.Notches.map cI),.sl .no 1 (r4.Wheel.Coins.map cI),.sl .no 1 ((r4.Found.set (Int.toNat a1) (w64 (x7+1))).map cI),.sl .no 1 (r4.Marked.map cI),.sl .no 1 ((r4.Slugs.set (Int.toNat a1) (w64 (x5-1))).map cI),.i r4.Plays,.i r4.Skips]]) (by decide) rfl rfl ((zf2 hr10).le (.k .nil)) ?_
   refine Om (.tup [.sl .no 1 (r10.1.map cI),.i r10.2]) ?_
   refine Ox (.sl .no 1 (r10.1.map cI)) ?_
   refine Ox (.i r10.2) ?_
   refine Oa (.sl .no 1 (r10.1.map cI)) ?_
   refine Oa (.i r10.2) ?_
   refine Ni ?_
   refine Ws ?_
   refine Sq ?_
   refine Rg 7 ?_
   refine Olg (.agg (Box.cells a0)) zbd ?_
   obtain ⟨r11,hr11,hM⟩:=zal hM
   refine zaD (bs:=[.agg (Box.cells a0)]) (by decide) rfl rfl ((zeh hr11).le (.k .nil)) ?_
   refine Om (.tup [.i r11.1,.i r11.2]) ?_
   refine Ox (.i r11.1) ?_
   refine Ox (.i r11.2) ?_
   refine Oa (.i r11.1) ?_
   refine Oa (.i r11.2) ?_
   refine Ni ?_
   refine Ws ?_
   refine Sq ?_
   refine Rg 7 ?_
   refine zaQ (v:=.agg [.i r4.Wheel.Round,.sl .no 1 (r4.Wheel.Notches.map cI),.sl .no 1 (r4.Wheel.Coins.map cI),.sl .no 1 ((r4.Found.set (Int.toNat a1) (w64 (x7+1))).map cI),.sl .no 1 (r4.Marked.map cI),.sl .no 1 ((r4.Slugs.set (Int.toNat a1) (w64 (x5-1))).map cI),.i r4.Plays,.i r4.Skips]) 0 hS (by decide) rfl rfl .no (pg zbd) ?_
   obtain ⟨r12,hr12,hM⟩:=zal hM
   refine zaD (bs:=[.agg [.i r4.Wheel.Round,.sl .no 1 (r4.Wheel.Notches.map cI),.sl .no 1 (r4.Wheel.Coins.map cI),.sl .no 1 ((r4.Found.set (Int.toNat a1) (w64 (x7+1))).map cI),.sl .no 1 (r4.Marked.map cI),.sl .no 1 ((r4.Slugs.set (Int.toNat a1) (w64 (x5-1))).map cI),.i r4.Plays,.i r4.Skips]]) (by decide) rfl rfl ((zeh hr12).le (.k .nil)) ?_
   refine Om (.tup [.i r12.1,.i r12.2]) ?_
   refine Ox (.i r12.1) ?_
   refine Ox (.i r12.2) ?_
   refine Oa (.i r12.1) ?_
   refine Oa (.i r12.2) ?_
   refine Ni ?_
   refine Ws ?_
   refine Sq ?_
   refine Rg 11 ?_
   refine Olg (.agg (Box.cells a0)) zbd ?_
   obtain ⟨r13,hr13,hM⟩:=zal hM
   refine zaD (bs:=[.agg (Box.cells a0)]) (by decide) rfl rfl ((zfA hr13).le (.k .nil)) ?_
   refine Om (.tup [.i r13.1,.i r13.2.1,.i r13.2.2.1,.i r13.2.2.2]) ?_
   refine Ox (.i r13.1) ?_
   refine Ox (.i r13.2.1) ?_
   refine Ox (.i r13.2.2.1) ?_
   refine Ox (.i r13.2.2.2) ?_
   refine Oa (.i r13.1) ?_
   refine Oa (.i r13.2.1) ?_
   refine Oa (.i r13.2.2.1) ?_
   refine Oa (.i r13.2.2.2) ?_
   refine Ni ?_
   refine Ws ?_
   refine Sq ?_
   refine Rg 11 ?_
   refine zaQ (v:=.agg [.i r4.Wheel.Round,.sl .no 1 (r4.Wheel.Notches.map cI),.sl .no 1 (r4.Wheel.Coins.map cI),.sl .no 1 ((r4.Found.set (Int.toNat a1) (w64 (x7+1))).map cI),.sl .no 1 (r4.Marked.map cI),.sl .no 1 ((r4.Slugs.set (Int.toNat a1) (w64 (x5-1))).map cI),.i r4.Plays,.i r4.Skips]) 0 hS (by decide) rfl rfl .no (pg zbd) ?_
   obtain ⟨r14,hr14,hM⟩:=zal hM
   refine zaD (bs:=[.agg [.i r4.Wheel.Round,.sl .no 1 (r4.Wheel.Notches.map cI),.sl .no 1 (r4.Wheel.Coins.map cI),.sl .no 1 ((r4.Found.set (Int.toNat a1) (w64 (x7+1))).map cI),.sl .no 1 (r4.Marked.map cI),.sl .no 1 ((r4.Slugs.set (Int.toNat a1) (w64 (x5-1))).map cI),.i r4.Plays,.i r4.Skips]]) (by decide) rfl rfl ((zfA hr14).le (.k .nil)) ?_
   refine Om (.tup [.i r14.1,.i r14.2.1,.i r14.2.2.1,.i r14.2.2.2]) ?_
   refine Ox (.i r14.1) ?_
   refine Ox (.i r14.2.1) ?_
   refine Ox (.i r14.2.2.1) ?_
   refine Ox (.i r14.2.2.2) ?_
   refine Oa (.i r14.1) ?_
   refine Oa (.i r14.2.1) ?_
   refine Oa (.i r14.2.2.1) ?_
   refine Oa (.i r14.2.2.2) ?_
   refine Ni ?_
   replace hS:=hS.keep (L':=[]) [false] rfl
   refine Ws ?_
   refine Sq ?_
   refine Rg 7 ?_
   refine Of ((Box.cells a0)) zb0 ?_
   refine Of ((Box.cells a0)) zcq ?_
   refine Olp (.sl .no 1 (a0.Wheel.Coins.map cI)) zar zaH ?_
   refine Om (.i a1) ?_
   obtain ⟨x15,hx15,hM⟩:=zal hM
   refine zbb (xs:=a0.Wheel.Coins) (f:=cI) (z:=a1) (u:=x15) (by decide) rfl rfl zaA hx15 ?_
   refine Olp (.i x15) zah zaw ?_
   refine Oa (.i x15) ?_
   refine Ni ?_
   refine Ws ?_
   refine zbm (J:=Bool) (fun j=>[(4,.b j)]) (fun j H' g'=>St (·<g) H0 [] H' g'/\zaF j=some r) ?_ ?_
   ·rintro v16 H g2 ⟨hS,hM⟩
    change wpA _ _ _ _ (Fr.of [(4,.b v16)]) _ _
    replace hS:St (·<g) H0 [] H g2:=hS
    replace hM:zaF v16=some r:=hM
    refine zaT ?_
    refine za5 (x:=.b v16) (f:=fun r=>.b r) (.inr rfl) ?_ (.refl _) (Option.some.inj hM) hS
    exact (zaC (zae (x:=.b v16) rfl))
   ·refine Rg 52 ?_
    refine Om (.i r9.2) ?_
    refine Oi (.b (r9.2==0)) ?_
    refine Om (.b (r9.2==0)) ?_
    rcases bft (r9.2==0) with hb17 | hb17
    ·replace hM:=ifT hM hb17
     refine Oy (want:=true) hb17 ?_
     refine Om (.i r10.2) ?_
     refine Oy (want:=true) hb17 ?_
     refine Oi (.b (r10.2==0)) ?_
     refine Pt (.b (r10.2==0)) hb17 ?_
     refine Om (.b (r10.2==0)) ?_
     rcases bft (r10.2==0) with hb18 | hb18
     ·replace hM:=ifT hM hb18
      refine Oy (want:=true) hb18 ?_
      refine Om (.i r13.2.2.2) ?_
      refine Oy (want:=true) hb18 ?_
      refine Oi (.b (r13.2.2.2==0)) ?_
      refine Pt (.b (r13.2.2.2==0)) hb18 ?_
      refine Om (.b (r13.2.2.2==0)) ?_
      rcases bft (r13.2.2.2==0) with hb19 | hb19
      ·replace hM:=ifT hM hb19
       refine Oy (want:=true) hb19 ?_
       refine Om (.i r14.2.2.2) ?_
       refine Oy (want:=true) hb19 ?_
       refine Oi (.b (r14.2.2.2==0)) ?_
       refine Pt (.b (r14.2.2.2==0)) hb19 ?_
       refine Om (.b (r14.2.2.2==0)) ?_
       rcases bft (r14.2.2.2==0) with hb20 | hb20
       ·replace hM:=ifT hM hb20
        refine Oy (want:=true) hb20 ?_
        refine Om (.sl .no 1 (r9.1.map cI)) ?_
        refine Oy (want:=true) hb20 ?_
        refine Om (.sl .no 1 (r10.1.map cI)) ?_
        refine Oy (want:=true) hb20 ?_
        obtain ⟨r21,hr21,hM⟩:=zal hM
        refine zaD (bs:=[.sl .no 1 (r9.1.map cI),.sl .no 1 (r10.1.map cI)]) (by decide) rfl rfl ((zf7 hr21).le (.k (.k .nil))) ?_
        refine Pt (.b r21) hb20 ?_
        refine Om (.b r21) ?_
        rcases bft r21 with hb22 | hb22
        ·replace hM:=ifT hM hb22
         refine Oy (want:=true) hb22 ?_
         refine Om (.i r11.1) ?_
         refine Oy (want:=true) hb22 ?_
         refine Om (.i r12.1) ?_
         refine Oy (want:=true) hb22 ?_
         refine Oi (.b (r11.1==r12.1)) ?_
         refine Pt (.b (r11.1==r12.1)) hb22 ?_
         refine Om (.b (r11.1==r12.1)) ?_
         rcases bft (r11.1==r12.1) with hb23 | hb23
         ·replace hM:=ifT hM hb23
          refine Oy (want:=true) hb23 ?_
          refine Om (.i r11.2) ?_
          refine Oy (want:=true) hb23 ?_
          refine Om (.i r12.2) ?_
          refine Oy (want:=true) hb23 ?_
          refine Oi (.b (r11.2==r12.2)) ?_
          refine Pt (.b (r11.2==r12.2)) hb23 ?_
          refine Om (.b (r11.2==r12.2)) ?_
          rcases bft (r11.2==r12.2) with hb24 | hb24
          ·replace hM:=ifT hM hb24
           refine Oy (want:=true) hb24 ?_
           refine Om (.i r14.1) ?_
           refine Oy (want:=true) hb24 ?_
           refine Om (.i r13.1) ?_
           refine Oy (want:=true) hb24 ?_
           refine Om (.i x15) ?_
           refine Oy (want:=true) hb24 ?_
           refine Oi (.i (w64 (r13.1+x15))) ?_
           refine Oy (want:=true) hb24 ?_
           refine Oi (.b (r14.1==(w64 (r13.1+x15)))) ?_
           refine Pt (.b (r14.1==(w64 (r13.1+x15)))) hb24 ?_
           refine Om (.b (r14.1==(w64 (r13.1+x15)))) ?_
           rcases bft (r14.1==(w64 (r13.1+x15))) with hb25 | hb25
           ·replace hM:=ifT hM hb25
            refine Oy (want:=true) hb25 ?_
            refine Om (.i r14.2.1) ?_
            refine Oy (want:=true) hb25 ?_
            refine Om (.i r13.2.1) ?_
            refine Oy (want:=true) hb25 ?_
            refine Oi (.b (r14.2.1==r13.2.1)) ?_
            refine Pt (.b (r14.2.1==r13.2.1)) hb25 ?_
            refine Om (.b (r14.2.1==r13.2.1)) ?_
            rcases bft (r14.2.1==r13.2.1) with hb26 | hb26
            ·replace hM:=ifT hM hb26
             refine Oy (want:=true) hb26 ?_
             refine Om (.i r14.2.2.1) ?_
             refine Oy (want:=true) hb26 ?_
             refine Om (.i r13.2.2.1) ?_
             refine Oy (want:=true) hb26 ?_
             refine Om (.i x15) ?_
             refine Oy (want:=true) hb26 ?_
             refine Oi (.i (w64 (r13.2.2.1-x15))) ?_
             refine Oy (want:=true) hb26 ?_
             refine Oi (.b (r14.2.2.1==(w64 (r13.2.2.1-x15)))) ?_
             refine Pt (.b (r14.2.2.1==(w64 (r13.2.2.1-x15)))) hb26 ?_
             refine Om (.b (r14.2.2.1==(w64 (r13.2.2.1-x15)))) ?_
             rcases bft (r14.2.2.1==(w64 (r13.2.2.1-x15))) with hb27 | hb27
             ·replace hM:=ifT hM hb27
              refine Oy (want:=true) hb27 ?_
              obtain ⟨r28,hr28,hM⟩:=zal hM
              refine zaD (bs:=[]) (by decide) rfl rfl ((zhU hr28).le .nil) ?_
              refine Pt (.b r28) hb27 ?_
              refine Oa (.b r28) ?_
              refine Ni ?_
              exact zap r28 (.k .nil) ⟨(hS.keep [] rfl).up (by omega),hM⟩
             ·replace hM:=ifF hM hb27
              refine On (want:=true) hb27 ?_
              refine Pf (.b false) hb27 ?_
              refine Oa (.b false) ?_
              refine Ni ?_
              exact zap false (.k .nil) ⟨(hS.keep [] rfl).up (by omega),hM⟩
            ·replace hM:=ifF hM hb26
             refine On (want:=true) hb26 ?_
             refine On (want:=true) hb26 ?_
             refine On (want:=true) hb26 ?_
             refine On (want:=true) hb26 ?_
             refine On (want:=true) hb26 ?_
             refine Pf (.b false) hb26 ?_
             refine Om (.b false) ?_
             refine Og ?_
             refine zan (v:=.b false) (e:=false) (by decide) rfl rfl rfl ?_
             refine Oa (.b false) ?_
             refine Ni ?_
             exact zap false (.k .nil) ⟨(hS.keep [] rfl).up (by omega),hM⟩
           ·replace hM:=ifF hM hb25
            refine On (want:=true) hb25 ?_
            refine On (want:=true) hb25 ?_
            refine On (want:=true) hb25 ?_
            refine Pf (.b false) hb25 ?_
            refine Om (.b false) ?_
            refine Og ?_
            refine Og ?_
            refine Og ?_
            refine Og ?_
            refine Og ?_
            refine zan (v:=.b false) (e:=false) (by decide) rfl rfl rfl ?_
            refine Om (.b false) ?_
            refine Og ?_
            refine zan (v:=.b false) (e:=false) (by decide) rfl rfl rfl ?_
            refine Oa (.b false) ?_
            refine Ni ?_
            exact zap false (.k .nil) ⟨(hS.keep [] rfl).up (by omega),hM⟩
          ·replace hM:=ifF hM hb24
           refine On (want:=true) hb24 ?_
           refine On (want:=true) hb24 ?_
           refine On (want:=true) hb24 ?_
           refine On (want:=true) hb24 ?_
           refine On (want:=true) hb24 ?_
           refine Pf (.b false) hb24 ?_
           refine Om (.b false) ?_
           refine Og ?_
           refine Og ?_
           refine Og ?_
           refine zan (v:=.b false) (e:=false) (by decide) rfl rfl rfl ?_
           refine Om (.b false) ?_
           refine Og ?_
           refine Og ?_
           refine Og ?_
           refine Og ?_
           refine Og ?_
           refine zan (v:=.b false) (e:=false) (by decide) rfl rfl rfl ?_
           refine Om (.b false) ?_
           refine Og ?_
           refine zan (v:=.b false) (e:=false) (by decide) rfl rfl rfl ?_
           refine Oa (.b false) ?_
           refine Ni ?_
           exact zap false (.k .nil) ⟨(hS.keep [] rfl).up (by omega),hM⟩
         ·replace hM:=ifF hM hb23
          refine On (want:=true) hb23 ?_
          refine On (want:=true) hb23 ?_
          refine On (want:=true) hb23 ?_
          refine Pf (.b false) hb23 ?_
          refine Om (.b false) ?_
          refine Og ?_
          refine Og ?_
          refine Og ?_
          refine Og ?_
          refine Og ?_
          refine zan (v:=.b false) (e:=false) (by decide) rfl rfl rfl ?_
          refine Om (.b false) ?_
          refine Og ?_
          refine Og ?_
          refine Og ?_
          refine zan (v:=.b false) (e:=false) (by decide) rfl rfl rfl ?_
          refine Om (.b false) ?_
          refine Og ?_
          refine Og ?_
          refine Og ?_
          refine Og ?_
          refine Og ?_
          refine zan (v:=.b false) (e:=false) (by decide) rfl rfl rfl ?_
          refine Om (.b false) ?_
          refine Og ?_
          refine zan (v:=.b false) (e:=false) (by decide) rfl rfl rfl ?_
          refine Oa (.b false) ?_
          refine Ni ?_
          exact zap false (.k .nil) ⟨(hS.keep [] rfl).up (by omega),hM⟩
        ·replace hM:=ifF hM hb22
         refine On (want:=true) hb22 ?_
         refine On (want:=true) hb22 ?_
         refine On (want:=true) hb22 ?_
         refine Pf (.b false) hb22 ?_
         refine Om (.b false) ?_
         refine Og ?_
         refine Og ?_
         refine Og ?_
         refine zan (v:=.b false) (e:=false) (by decide) rfl rfl rfl ?_
         refine Om (.b false) ?_
         refine Og ?_
         refine Og ?_
         refine Og ?_
         refine Og ?_
         refine Og ?_
         refine zan (v:=.b false) (e:=false) (by decide) rfl rfl rfl ?_
         refine Om (.b false) ?_
         refine Og ?_
         refine Og ?_
         refine Og ?_
         refine zan (v:=.b false) (e:=false) (by decide) rfl rfl rfl ?_
         refine Om (.b false) ?_
         refine Og ?_
         refine Og ?_
         refine Og ?_
         refine Og ?_
         refine Og ?_
         refine zan (v:=.b false) (e:=false) (by decide) rfl rfl rfl ?_
         refine Om (.b false) ?_
         refine Og ?_
         refine zan (v:=.b false) (e:=false) (by decide) rfl rfl rfl ?_
         refine Oa (.b false) ?_
         refine Ni ?_
         exact zap false (.k .nil) ⟨(hS.keep [] rfl).up (by omega),hM⟩
       ·replace hM:=ifF hM hb20
        refine On (want:=true) hb20 ?_
        refine On (want:=true) hb20 ?_
        refine On (want:=true) hb20 ?_
        refine Pf (.b false) hb20 ?_
        refine Om (.b false) ?_
        refine Og ?_
        refine Og ?_
        refine Og ?_
        refine zan (v:=.b false) (e:=false) (by decide) rfl rfl rfl ?_
        refine Om (.b false) ?_
        refine Og ?_
        refine Og ?_
        refine Og ?_
        refine zan (v:=.b false) (e:=false) (by decide) rfl rfl rfl ?_
        refine Om (.b false) ?_
        refine Og ?_
        refine Og ?_
        refine Og ?_
        refine Og ?_
        refine Og ?_
        refine zan (v:=.b false) (e:=false) (by decide) rfl rfl rfl ?_
        refine Om (.b false) ?_
        refine Og ?_
        refine Og ?_
        refine Og ?_
        refine zan (v:=.b false) (e:=false) (by decide) rfl rfl rfl ?_
        refine Om (.b false) ?_
        refine Og ?_
        refine Og ?_
        refine Og ?_
        refine Og ?_
        refine Og ?_
        refine zan (v:=.b false) (e:=false) (by decide) rfl rfl rfl ?_
        refine Om (.b false) ?_
        refine Og ?_
        refine zan (v:=.b false) (e:=false) (by decide) rfl rfl rfl ?_
        refine Oa (.b false) ?_
        refine Ni ?_
        exact zap false (.k .nil) ⟨(hS.keep [] rfl).up (by omega),hM⟩
      ·replace hM:=ifF hM hb19
       refine On (want:=true) hb19 ?_
       refine On (want:=true) hb19 ?_
       refine Pf (.b false) hb19 ?_
       refine Om (.b false) ?_
       refine Og ?_
       refine Og ?_
       refine Og ?_
       refine zan (v:=.b false) (e:=false) (by decide) rfl rfl rfl ?_
       refine Om (.b false) ?_
       refine Og ?_
       refine Og ?_
       refine Og ?_
       refine zan (v:=.b false) (e:=false) (by decide) rfl rfl rfl ?_
       refine Om (.b false) ?_
       refine Og ?_
       refine Og ?_
       refine Og ?_
       refine zan (v:=.b false) (e:=false) (by decide) rfl rfl rfl ?_
       refine Om (.b false) ?_
       refine Og ?_
       refine Og ?_
       refine Og ?_
       refine Og ?_
       refine Og ?_
       refine zan (v:=.b false) (e:=false) (by decide) rfl rfl rfl ?_
       refine Om (.b false) ?_
       refine Og ?_
       refine Og ?_
       refine Og ?_
       refine zan (v:=.b false) (e:=false) (by decide) rfl rfl rfl ?_
       refine Om (.b false) ?_
       refine Og ?_
       refine Og ?_
       refine Og ?_
       refine Og ?_
       refine Og ?_
       refine zan (v:=.b false) (e:=false) (by decide) rfl rfl rfl ?_
       refine Om (.b false) ?_
       refine Og ?_
       refine zan (v:=.b false) (e:=false) (by decide) rfl rfl rfl ?_
       refine Oa (.b false) ?_
       refine Ni ?_
       exact zap false (.k .nil) ⟨(hS.keep [] rfl).up (by omega),hM⟩
     ·replace hM:=ifF hM hb18
      refine On (want:=true) hb18 ?_
      refine On (want:=true) hb18 ?_
      refine Pf (.b false) hb18 ?_
      refine Om (.b false) ?_
      refine Og ?_
      refine Og ?_
      refine zan (v:=.b false) (e:=false) (by decide) rfl rfl rfl ?_
      refine Om (.b false) ?_
      refine Og ?_
      refine Og ?_
      refine Og ?_
      refine zan (v:=.b false) (e:=false) (by decide) rfl rfl rfl ?_
      refine Om (.b false) ?_
      refine Og ?_
      refine Og ?_
      refine Og ?_
      refine zan (v:=.b false) (e:=false) (by decide) rfl rfl rfl ?_
      refine Om (.b false) ?_
      refine Og ?_
      refine Og ?_
      refine Og ?_
      refine zan (v:=.b false) (e:=false) (by decide) rfl rfl rfl ?_
      refine Om (.b false) ?_
      refine Og ?_
      refine Og ?_
      refine Og ?_
      refine Og ?_
      refine Og ?_
      refine zan (v:=.b false) (e:=false) (by decide) rfl rfl rfl ?_
      refine Om (.b false) ?_
      refine Og ?_
      refine Og ?_
      refine Og ?_
      refine zan (v:=.b false) (e:=false) (by decide) rfl rfl rfl ?_
      refine Om (.b false) ?_
      refine Og ?_
      refine Og ?_
      refine Og ?_
      refine Og ?_
      refine Og ?_
      refine zan (v:=.b false) (e:=false) (by decide) rfl rfl rfl ?_
      refine Om (.b false) ?_
      refine Og ?_
      refine zan (v:=.b false) (e:=false) (by decide) rfl rfl rfl ?_
      refine Oa (.b false) ?_
      refine Ni ?_
      exact zap false (.k .nil) ⟨(hS.keep [] rfl).up (by omega),hM⟩
    ·replace hM:=ifF hM hb17
     refine On (want:=true) hb17 ?_
     refine On (want:=true) hb17 ?_
     refine Pf (.b false) hb17 ?_
     refine Om (.b false) ?_
     refine Og ?_
     refine Og ?_
     refine zan (v:=.b false) (e:=false) (by decide) rfl rfl rfl ?_
     refine Om (.b false) ?_
     refine Og ?_
     refine Og ?_
     refine zan (v:=.b false) (e:=false) (by decide) rfl rfl rfl ?_
     refine Om (.b false) ?_
     refine Og ?_
     refine Og ?_
     refine Og ?_
     refine zan (v:=.b false) (e:=false) (by decide) rfl rfl rfl ?_
     refine Om (.b false) ?_
     refine Og ?_
     refine Og ?_
     refine Og ?_
     refine zan (v:=.b false) (e:=false) (by decide) rfl rfl rfl ?_
     refine Om (.b false) ?_
     refine Og ?_
     refine Og ?_
     refine Og ?_
     refine zan (v:=.b false) (e:=false) (by decide) rfl rfl rfl ?_
     refine Om (.b false) ?_
     refine Og ?_
     refine Og ?_
     refine Og ?_
     refine Og ?_
     refine Og ?_
     refine zan (v:=.b false) (e:=false) (by decide) rfl rfl rfl ?_
     refine Om (.b false) ?_
     refine Og ?_
     refine Og ?_
     refine Og ?_
     refine zan (v:=.b false) (e:=false) (by decide) rfl rfl rfl ?_
     refine Om (.b false) ?_
     refine Og ?_
     refine Og ?_
     refine Og ?_
     refine Og ?_
     refine Og ?_
     refine zan (v:=.b false) (e:=false) (by decide) rfl rfl rfl ?_
     refine Om (.b false) ?_
     refine Og ?_
     refine zan (v:=.b false) (e:=false) (by decide) rfl rfl rfl ?_
     refine Oa (.b false) ?_
     refine Ni ?_
     exact zap false (.k .nil) ⟨(hS.keep [] rfl).up (by omega),hM⟩
 ·refine Rg 22 ?_
  refine Olg (.agg (Box.cells a0)) zbd ?_
  obtain ⟨r29,hr29,hM⟩:=zal hM
  refine zaD (bs:=[.agg (Box.cells a0)]) (by decide) rfl rfl ((zk7 hr29).le (.k .nil)) ?_
  refine zd4 (e:=r29) (by decide) rfl ?_
  refine Om (.b (!r29)) ?_
  rcases bft (!r29) with hb30 | hb30
  ·replace hM:=ifT hM hb30
   refine On (want:=false) hb30 ?_
   refine On (want:=false) hb30 ?_
   refine Pt (.b true) hb30 ?_
   refine Om (.b true) ?_
   refine Og ?_
   refine Og ?_
   refine Og ?_
   refine Og ?_
   refine Og ?_
   refine zb4 (v:=.b true) (e:=true) (by decide) rfl rfl rfl ?_
   refine Om (.b true) ?_
   refine Og ?_
   refine Og ?_
   refine Og ?_
   refine Og ?_
   refine Og ?_
   refine Og ?_
   refine zb4 (v:=.b true) (e:=true) (by decide) rfl rfl rfl ?_
   refine Ni ?_
   exact zap true (.k (.k (.k .nil))) ⟨(hS.keep [] rfl).up (by omega),hM⟩
  ·replace hM:=ifF hM hb30
   refine Oy (want:=false) hb30 ?_
   refine Om (.i a1) ?_
   refine Oy (want:=false) hb30 ?_
   refine Oi (.b (decide (a1<0))) ?_
   refine Pf (.b (decide (a1<0))) hb30 ?_
   refine Om (.b (decide (a1<0))) ?_
   rcases bft (decide (a1<0)) with hb31 | hb31
   ·replace hM:=ifT hM hb31
    refine On (want:=false) hb31 ?_
    refine On (want:=false) hb31 ?_
    refine On (want:=false) hb31 ?_
    refine On (want:=false) hb31 ?_
    refine On (want:=false) hb31 ?_
    refine Pt (.b true) hb31 ?_
    refine Om (.b true) ?_
    refine Og ?_
    refine Og ?_
    refine Og ?_
    refine Og ?_
    refine Og ?_
    refine Og ?_
    refine zb4 (v:=.b true) (e:=true) (by decide) rfl rfl rfl ?_
    refine Ni ?_
    exact zap true (.k (.k (.k .nil))) ⟨(hS.keep [] rfl).up (by omega),hM⟩
   ·replace hM:=ifF hM hb31
    refine Oy (want:=false) hb31 ?_
    refine Om (.i a1) ?_
    refine Oy (want:=false) hb31 ?_
    refine Of ((Box.cells a0)) zcr ?_
    refine Oy (want:=false) hb31 ?_
    refine Olp (.sl .no 1 (a0.Slugs.map cI)) zar zaH ?_
    refine Oy (want:=false) hb31 ?_
    refine zb7 (n:=a0.Slugs.length) (by decide) rfl (List.length_map _) zaN ?_
    refine Oy (want:=false) hb31 ?_
    refine Oi (.b (decide (a1≥(a0.Slugs.length:Int)))) ?_
    refine Pf (.b (decide (a1≥(a0.Slugs.length:Int)))) hb31 ?_
    refine Om (.b (decide (a1≥(a0.Slugs.length:Int)))) ?_
    rcases bft (decide (a1≥(a0.Slugs.length:Int))) with hb32 | hb32
    ·replace hM:=ifT hM hb32
     refine On (want:=false) hb32 ?_
     refine On (want:=false) hb32 ?_
     refine On (want:=false) hb32 ?_
     refine On (want:=false) hb32 ?_
     refine On (want:=false) hb32 ?_
     refine On (want:=false) hb32 ?_
     refine Pt (.b true) hb32 ?_
     refine Ni ?_
     exact zap true (.k (.k (.k .nil))) ⟨(hS.keep [] rfl).up (by omega),hM⟩
    ·replace hM:=ifF hM hb32
     refine Oy (want:=false) hb32 ?_
     refine Of ((Box.cells a0)) zcr ?_
     refine Oy (want:=false) hb32 ?_
     refine Olp (.sl .no 1 (a0.Slugs.map cI)) zar zaH ?_
     refine Oy (want:=false) hb32 ?_
     refine Om (.i a1) ?_
     refine Oy (want:=false) hb32 ?_
     obtain ⟨x33,hx33,hM⟩:=zal hM
     refine zbb (xs:=a0.Slugs) (f:=cI) (z:=a1) (u:=x33) (by decide) rfl rfl zaA hx33 ?_
     refine Oy (want:=false) hb32 ?_
     refine Olp (.i x33) zah zaw ?_
     refine Oy (want:=false) hb32 ?_
     refine Oi (.b (x33==0)) ?_
     refine Pf (.b (x33==0)) hb32 ?_
     refine Ni ?_
     exact zap (x33==0) (.k (.k (.k .nil))) ⟨(hS.keep [] rfl).up (by omega),hM⟩
end Go.Proofs.Ytenogpmlhpcibaa
