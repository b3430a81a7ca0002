/-
  The code returns what the functions say (printed by gen.py).
  Conditions: none.
-/
import Derived.Test.YtenogpmlhpcibaaWkTakingsLeast2
import Derived.Test.YtenogpmlhpcibaaAmOx
import Derived.Test.YtenogpmlhpcibaaSh
import Derived.Test.YtenogpmlhpcibaaKs
import Derived.Test.YtenogpmlhpcibaaEn
set_option linter.all false
namespace Go.Proofs.Ytenogpmlhpcibaa
open Go Go.AM Go.Law
set_option linter.unusedVariables false
set_option maxRecDepth 4000
set_option maxHeartbeats 4000000
theorem zlb {n:Nat} {a0:Box} {r:Int×Int×Int×Int} (hM:zgc n a0=some r):zaF Try.prog 20 [.agg (Box.cells a0)] (.tup [.i r.1,.i r.2.1,.i r.2.2.1,.i r.2.2.2]):=by
 refine zak mixed Try.func20 rfl (by decide) Try.ntmps20 (by simp) ?pure fun H0 g hf=>?_
 case pure=>exact .tup _ (zac (.v _) (zac (.v _) (zac (.v _) (zac (.v _) zaK))))
 rw [zag]
 change wpA _ _ _ _ (Fr.of [(0,.agg (Box.cells a0))]) H0 g
 have hS:=St.start hf
 refine Sq ?_
 refine Rg 5 ?_
 refine zcC (v:=.agg (Box.cells a0)) (cs:=(Box.cells a0)) hS (by decide) rfl rfl (by omega) fun H hS=>?_
 refine Oa (.i 0) ?_
 refine Oa (.i 0) ?_
 refine Oa (.i 0) ?_
 refine Oa (.i 0) ?_
 refine Ni ?_
 refine zbk (L':=[]) 0 1 hS rfl rfl rfl fun H hS=>?_
 refine Ws ?_
 refine Sq ?_
 refine Rg 7 ?_
 refine Olg (.agg (Box.cells a0)) zba ?_
 obtain ⟨r1,hr1,hM⟩:=zaj hM
 refine zau (bs:=[.agg (Box.cells a0)]) (by decide) rfl rfl ((zfc hr1).le (.k .nil)) ?_
 refine Om (.tup [pA Box_.cells r1.1,.i r1.2]) ?_
 refine Ox (pA Box_.cells r1.1) ?_
 refine Ox (.i r1.2) ?_
 refine Oa (pA Box_.cells r1.1) ?_
 refine Oa (.i r1.2) ?_
 refine Ni ?_
 refine Ws ?_
 refine Sq ?_
 refine Sq ?_
 refine Rg 2 ?_
 refine Om (.i r1.2) ?_
 refine Oi (.b (r1.2 != 0)) ?_
 refine Ni ?_
 refine Ws ?_
 rcases bft (r1.2 != 0) with hb2 | hb2
 ·replace hM:=ifT hM hb2
  refine Ct hb2 ?_
  refine Sq ?_
  refine Rg 5 ?_
  refine Om (.i r1.2) ?_
  refine Oa (.i 0) ?_
  refine Oa (.i 0) ?_
  refine Oa (.i 0) ?_
  refine Oa (.i r1.2) ?_
  refine Ni ?_
  refine Ws ?_
  refine zaQ ?_
  refine zan ?_
  refine zaU (x:=.tup [.i 0,.i 0,.i 0,.i r1.2]) (f:=fun r=>.tup [.i r.1,.i r.2.1,.i r.2.2.1,.i r.2.2.2]) (.inr rfl) ?_ (.refl _) (Option.some.inj hM) hS
  exact (zoF (zae (x:=.i 0) rfl) (zae (x:=.i 0) rfl) (zae (x:=.i 0) rfl) (zae (x:=.i r1.2) rfl))
 ·replace hM:=ifF hM hb2
  refine Cf hb2 ?_
  refine zaz ?_
  refine Ws ?_
  refine Sq ?_
  refine Rg 5 ?_
  refine Om (pA Box_.cells r1.1) ?_
  refine Of ((Box.cells a0)) zgD ?_
  refine Olp (.sl .no 1 (a0.Marked.map cI)) zaA zaO ?_
  obtain ⟨r3,hr3,hM⟩:=zaj hM
  refine zau (bs:=[pA Box_.cells r1.1,.sl .no 1 (a0.Marked.map cI)]) (by decide) rfl rfl ((zbm hr3).le (.k (.k .nil))) ?_
  refine Oa (.i r3) ?_
  refine Ni ?_
  refine Ws ?_
  refine Sq ?_
  have hS0:=hS
  refine zcD (n:=15) rfl (by kernel_rfl) ?_
  refine Om (pA Box_.cells r1.1) ?_
  refine Of ((Box.cells a0)) zcN ?_
  refine Olp (.sl .no 1 (a0.Found.map cI)) zaA zaO ?_
  obtain ⟨r4,hr4,hM⟩:=zaj hM
  refine zau (bs:=[pA Box_.cells r1.1,.sl .no 1 (a0.Found.map cI)]) (by decide) rfl rfl ((zbm hr4).le (.k (.k .nil))) ?_
  refine Om (.i r3) ?_
  refine Oi (.i (w64 (r4-r3))) ?_
  refine Om (.i r3) ?_
  refine Om (pA Box_.cells r1.1) ?_
  refine Of ((Box.cells a0)) zfo ?_
  refine Olp (.sl .no 1 (a0.Slugs.map cI)) zaA zaO ?_
  obtain ⟨r5,hr5,hM⟩:=zaj hM
  refine zau (bs:=[pA Box_.cells r1.1,.sl .no 1 (a0.Slugs.map cI)]) (by decide) rfl rfl ((zbm hr5).le (.k (.k .nil))) ?_
  refine Oa (.i (w64 (r4-r3))) ?_
  refine Oa (.i r3) ?_
  refine Oa (.i r5) ?_
  refine Oa (.i 0) ?_
  refine Ni ?_
  refine zff [(2,.i (w64 (r4-r3))),(3,.i r3),(4,.i r5),(5,.i 0)] (.k (.k (.k (.k .nil)))) ?_
  refine zaQ ?_
  refine zaU (x:=.tup [.i (w64 (r4-r3)),.i r3,.i r5,.i 0]) (f:=fun r=>.tup [.i r.1,.i r.2.1,.i r.2.2.1,.i r.2.2.2]) (.inr rfl) ?_ (.refl _) (Option.some.inj hM) hS
  exact (zoF (zae (x:=.i (w64 (r4-r3))) rfl) (zae (x:=.i r3) rfl) (zae (x:=.i r5) rfl) (zae (x:=.i 0) rfl))
theorem zg7 {n:Nat} {a0:List Int} {a1:List Int} {r:Bool} (hM:zdt n a0 a1=some r):zaF Try.prog 21 [.sl .no 1 (a0.map cI),.sl .no 1 (a1.map cI)] (.b r):=by
 refine zak mixed Try.func21 rfl (by decide) Try.ntmps21 (by simp) ?pure fun H0 g hf=>?_
 case pure=>exact .v _
 rw [zag]
 change wpA _ _ _ _ (Fr.of [(0,.sl .no 1 (a0.map cI)),(1,.sl .no 1 (a1.map cI))]) H0 g
 have hS:=St.start hf
 refine Sq ?_
 refine Rg 1 ?_
 refine Oa (.b false) ?_
 refine Ni ?_
 refine Ws ?_
 refine Sq ?_
 refine Sq ?_
 refine Rg 5 ?_
 refine Om (.sl .no 1 (a0.map cI)) ?_
 refine zbu (n:=a0.length) (by decide) rfl (List.length_map _) zax ?_
 refine Om (.sl .no 1 (a1.map cI)) ?_
 refine zbu (n:=a1.length) (by decide) rfl (List.length_map _) zax ?_
 refine Oi (.b ((a0.length:Int) != (a1.length:Int))) ?_
 refine Ni ?_
 refine Ws ?_
 rcases bft ((a0.length:Int) != (a1.length:Int)) with hb1 | hb1
 ·replace hM:=ifT hM hb1
  refine Ct hb1 ?_
  refine Sq ?_
  refine Rg 1 ?_
  refine Oa (.b false) ?_
  refine Ni ?_
  refine Ws ?_
  refine zaQ ?_
  refine zan ?_
  refine zaU (x:=.b false) (f:=fun r=>.b r) (.inr rfl) ?_ (.refl _) (Option.some.inj hM) hS
  exact (zas (zae (x:=.b false) rfl))
 ·replace hM:=ifF hM hb1
  refine Cf hb1 ?_
  refine zaz ?_
  refine Ws ?_
  refine zaS (J:=Unit) (fun j=>[]) (fun j H' g'=>St (·<g) H0 [] H' g'/\zdZ=some r) ?_ ?_
  ·rintro _ H g1 ⟨hS,hM⟩
   change wpA _ _ _ _ (Fr.of []) _ _
   replace hS:St (·<g) H0 [] H g1:=hS
   replace hM:zdZ=some r:=hM
   refine Sq ?_
   refine Rg 1 ?_
   refine Oa (.b true) ?_
   refine Ni ?_
   refine Ws ?_
   refine zaQ ?_
   refine zaU (x:=.b true) (f:=fun r=>.b r) (.inr rfl) ?_ (.refl _) (Option.some.inj hM) hS
   exact (zas (zae (x:=.b true) rfl))
  ·refine Sq ?_
   refine Rg 1 ?_
   refine Oa (.i 0) ?_
   refine Ni ?_
   refine Ws ?_
   refine zay ?_
   refine zbU (V:=Int) (fun v=>[(0,.sl .no 1 (a0.map cI)),(1,.sl .no 1 (a1.map cI)),(5,.i v)]) (fun v m2 H' g'=>St (·<g) H0 [] H' g'/\zbI a0 a1 m2 v=some r) (n:=n) 0 (.k (.k (.k .nil))) ⟨(hS.keep [] rfl).up (by omega),hM⟩ ?_
   rintro v2 m2 H g2 ⟨hS,hM⟩
   obtain _ | m2:=m2
   ·exact nomatch (show none=some _ from hM)
   change wpA _ _ _ _ (Fr.of [(0,.sl .no 1 (a0.map cI)),(1,.sl .no 1 (a1.map cI)),(5,.i v2)]) _ _
   replace hS:St (·<g) H0 [] H g2:=hS
   replace hM:zde a0 a1 (zbI a0 a1 m2) v2=some r:=hM
   refine Sq ?_
   refine Sq ?_
   refine Rg 4 ?_
   refine Om (.i v2) ?_
   refine Om (.sl .no 1 (a0.map cI)) ?_
   refine zbu (n:=a0.length) (by decide) rfl (List.length_map _) zax ?_
   refine Oi (.b (decide (v2<(a0.length:Int)))) ?_
   refine Ni ?_
   refine Ws ?_
   rcases bft (decide (v2<(a0.length:Int))) with hb3 | hb3
   ·replace hM:=ifT hM hb3
    refine Ct hb3 ?_
    refine zaz ?_
    refine Ws ?_
    refine Sq ?_
    refine zay ?_
    refine Sq ?_
    have hS0:=hS
    refine zcD (n:=9) rfl (by kernel_rfl) ?_
    refine Om (.sl .no 1 (a0.map cI)) ?_
    refine Om (.i v2) ?_
    obtain ⟨x4,hx4,hM⟩:=zaj hM
    refine zaW (xs:=a0) (f:=cI) (z:=v2) (u:=x4) (by decide) rfl rfl zaG hx4 ?_
    refine Olp (.i x4) zaf zav ?_
    refine Om (.sl .no 1 (a1.map cI)) ?_
    refine Om (.i v2) ?_
    obtain ⟨x5,hx5,hM⟩:=zaj hM
    refine zaW (xs:=a1) (f:=cI) (z:=v2) (u:=x5) (by decide) rfl rfl zaG hx5 ?_
    refine Olp (.i x5) zaf zav ?_
    refine Oi (.b (x4 != x5)) ?_
    refine Ni ?_
    refine Ws ?_
    rcases bft (x4 != x5) with hb6 | hb6
    ·replace hM:=ifT hM hb6
     refine Ct hb6 ?_
     refine Sq ?_
     refine Rg 1 ?_
     refine Oa (.b false) ?_
     refine Ni ?_
     refine Ws ?_
     refine zaQ ?_
     refine za1 ?_
     refine zan ?_
     refine zcj ?_
     refine za1 ?_
     refine zcF ?_
     refine zaU (x:=.b false) (f:=fun r=>.b r) (.inr rfl) ?_ (.refl _) (Option.some.inj hM) hS
     exact (zas (zae (x:=.b false) rfl))
    ·replace hM:=ifF hM hb6
     refine Cf hb6 ?_
     refine zaz ?_
     refine zal ?_
     refine Ws ?_
     refine Rg 3 ?_
     refine Om (.i v2) ?_
     refine Oi (.i (w64 (v2+1))) ?_
     refine Oa (.i (w64 (v2+1))) ?_
     refine Ni ?_
     exact za6 (w64 (v2+1)) (Nat.lt_succ_self _) (.k (.k (.k .nil))) ⟨(hS.keep [] rfl).up (by omega),hM⟩
   ·replace hM:=ifF hM hb3
    refine Cf hb3 ?_
    refine zbM ?_
    refine zat ?_
    refine zap ?_
    refine zaD ?_
    exact zah () .nil ⟨(hS.keep [] rfl).up (by omega),hM⟩
theorem zjF {n:Nat} {a0:List Int} {r:Int} (hM:slices_Max_int n a0=some r):zaF Try.prog 73 [.sl .no 1 (a0.map cI)] (.i r):=by
 refine zak mixed Try.func73 rfl (by decide) Try.ntmps73 (by simp) ?pure fun H0 g hf=>?_
 case pure=>exact .v _
 rw [zag]
 change wpA _ _ _ _ (Fr.of [(0,.sl .no 1 (a0.map cI))]) H0 g
 have hS:=St.start hf
 refine Sq ?_
 refine Rg 1 ?_
 refine Oa (.i 0) ?_
 refine Ni ?_
 refine Ws ?_
 refine zaS (J:=Unit) (fun j=>[(0,.sl .no 1 (a0.map cI))]) (fun j H' g'=>St (·<g) H0 [] H' g'/\zd1 n a0=some r) ?_ ?_
 ·rintro _ H g1 ⟨hS,hM⟩
  change wpA _ _ _ _ (Fr.of [(0,.sl .no 1 (a0.map cI))]) _ _
  replace hS:St (·<g) H0 [] H g1:=hS
  replace hM:zd1 n a0=some r:=hM
  refine Sq ?_
  refine Rg 4 ?_
  refine Om (.sl .no 1 (a0.map cI)) ?_
  obtain ⟨x1,hx1,hM⟩:=zaj hM
  refine zaW (xs:=a0) (f:=cI) (z:=0) (u:=x1) (by decide) rfl rfl zaG hx1 ?_
  refine Olp (.i x1) zaf zav ?_
  refine Oa (.i x1) ?_
  refine Ni ?_
  refine Ws ?_
  refine zaS (J:=Int) (fun j=>[(3,.i j)]) (fun j H' g'=>St (·<g) H0 [] H' g'/\zd0 j=some r) ?_ ?_
  ·rintro v2 H g2 ⟨hS,hM⟩
   change wpA _ _ _ _ (Fr.of [(3,.i v2)]) _ _
   replace hS:St (·<g) H0 [] H g2:=hS
   replace hM:zd0 v2=some r:=hM
   refine Sq ?_
   refine Rg 2 ?_
   refine Om (.i v2) ?_
   refine Oa (.i v2) ?_
   refine Ni ?_
   refine Ws ?_
   refine zaQ ?_
   refine zaU (x:=.i v2) (f:=fun r=>.i r) (.inr rfl) ?_ (.refl _) (Option.some.inj hM) hS
   exact (zas (zae (x:=.i v2) rfl))
  ·refine Sq ?_
   refine Rg 1 ?_
   refine Oa (.i 1) ?_
   refine Ni ?_
   refine Ws ?_
   refine zay ?_
   refine zbU (V:=Int×Int) (fun v=>[(0,.sl .no 1 (a0.map cI)),(3,.i v.1),(4,.i v.2)]) (fun v m3 H' g'=>St (·<g) H0 [] H' g'/\zb4 a0 m3 v.1 v.2=some r) (n:=n) (x1,1) (.k (.k (.k .nil))) ⟨(hS.keep [] rfl).up (by omega),hM⟩ ?_
   rintro ⟨v3,v4⟩ m3 H g3 ⟨hS,hM⟩
   obtain _ | m3:=m3
   ·exact nomatch (show none=some _ from hM)
   change wpA _ _ _ _ (Fr.of [(0,.sl .no 1 (a0.map cI)),(3,.i v3),(4,.i v4)]) _ _
   replace hS:St (·<g) H0 [] H g3:=hS
   replace hM:zdf a0 (zb4 a0 m3) v3 v4=some r:=hM
   refine Sq ?_
   refine Sq ?_
   refine Rg 4 ?_
   refine Om (.i v4) ?_
   refine Om (.sl .no 1 (a0.map cI)) ?_
   refine zbu (n:=a0.length) (by decide) rfl (List.length_map _) zax ?_
   refine Oi (.b (decide (v4<(a0.length:Int)))) ?_
   refine Ni ?_
   refine Ws ?_
   rcases bft (decide (v4<(a0.length:Int))) with hb5 | hb5
   ·replace hM:=ifT hM hb5
    refine Ct hb5 ?_
    refine zaz ?_
    refine Ws ?_
    refine Sq ?_
    refine zay ?_
    refine Rg 7 ?_
    refine Om (.i v3) ?_
    refine Om (.sl .no 1 (a0.map cI)) ?_
    refine Om (.i v4) ?_
    obtain ⟨x6,hx6,hM⟩:=zaj hM
    refine zaW (xs:=a0) (f:=cI) (z:=v4) (u:=x6) (by decide) rfl rfl zaG hx6 ?_
    refine Olp (.i x6) zaf zav ?_
    refine ztL (v:=.i (max v3 x6)) (by decide) rfl ?_
    refine Oa (.i (max v3 x6)) ?_
    refine Ni ?_
    refine zal ?_
    refine Ws ?_
    refine Rg 3 ?_
    refine Om (.i v4) ?_
    refine Oi (.i (w64 (v4+1))) ?_
    refine Oa (.i (w64 (v4+1))) ?_
    refine Ni ?_
    exact za6 ((max v3 x6),w64 (v4+1)) (Nat.lt_succ_self _) (.k (.k (.k .nil))) ⟨(hS.keep [] rfl).up (by omega),hM⟩
   ·replace hM:=ifF hM hb5
    refine Cf hb5 ?_
    refine zbM ?_
    refine zat ?_
    refine zap ?_
    refine zaD ?_
    exact zah v3 (.k .nil) ⟨(hS.keep [] rfl).up (by omega),hM⟩
 ·refine Sq ?_
  refine Rg 3 ?_
  refine Om (.sl .no 1 (a0.map cI)) ?_
  refine zbu (n:=a0.length) (by decide) rfl (List.length_map _) zax ?_
  refine Oi (.b (decide ((a0.length:Int)<1))) ?_
  refine Ni ?_
  refine Ws ?_
  rcases bft (decide ((a0.length:Int)<1)) with hb7 | hb7
  ·replace hM:=ifT hM hb7
   refine Ct hb7 ?_
   refine Rg 2 ?_
   exact nomatch (show none=some _ from hM)
  ·replace hM:=ifF hM hb7
   refine Cf hb7 ?_
   refine zaz ?_
   exact zah () (.k .nil) ⟨(hS.keep [] rfl).up (by omega),hM⟩
theorem zkJ {n:Nat} {a0:Box} {r:Int×Int} (hM:zfB n a0=some r):zaF Try.prog 39 [.agg (Box.cells a0)] (.tup [.i r.1,.i r.2]):=by
 refine zak mixed Try.func39 rfl (by decide) Try.ntmps39 (by simp) ?pure fun H0 g hf=>?_
 case pure=>exact .tup _ (zac (.v _) (zac (.v _) zaK))
 rw [zag]
 change wpA _ _ _ _ (Fr.of [(0,.agg (Box.cells a0))]) H0 g
 have hS:=St.start hf
 refine Sq ?_
 refine Rg 3 ?_
 refine zcC (v:=.agg (Box.cells a0)) (cs:=(Box.cells a0)) hS (by decide) rfl rfl (by omega) fun H hS=>?_
 refine Oa (.i 0) ?_
 refine Oa (.i 0) ?_
 refine Ni ?_
 refine zbk (L':=[]) 0 1 hS rfl rfl rfl fun H hS=>?_
 refine Ws ?_
 refine Sq ?_
 refine Rg 7 ?_
 refine Olg (.agg (Box.cells a0)) zba ?_
 obtain ⟨r1,hr1,hM⟩:=zaj hM
 refine zau (bs:=[.agg (Box.cells a0)]) (by decide) rfl rfl ((zfc hr1).le (.k .nil)) ?_
 refine Om (.tup [pA Box_.cells r1.1,.i r1.2]) ?_
 refine Ox (pA Box_.cells r1.1) ?_
 refine Ox (.i r1.2) ?_
 refine Oa (pA Box_.cells r1.1) ?_
 refine Oa (.i r1.2) ?_
 refine Ni ?_
 refine Ws ?_
 refine Sq ?_
 refine Sq ?_
 refine Rg 2 ?_
 refine Om (.i r1.2) ?_
 refine Oi (.b (r1.2 != 0)) ?_
 refine Ni ?_
 refine Ws ?_
 rcases bft (r1.2 != 0) with hb2 | hb2
 ·replace hM:=ifT hM hb2
  refine Ct hb2 ?_
  refine Sq ?_
  refine Rg 3 ?_
  refine Om (.i r1.2) ?_
  refine Oa (.i 0) ?_
  refine Oa (.i r1.2) ?_
  refine Ni ?_
  refine Ws ?_
  refine zaQ ?_
  refine zan ?_
  refine zaU (x:=.tup [.i 0,.i r1.2]) (f:=fun r=>.tup [.i r.1,.i r.2]) (.inr rfl) ?_ (.refl _) (Option.some.inj hM) hS
  exact (zc8 (zae (x:=.i 0) rfl) (zae (x:=.i r1.2) rfl))
 ·replace hM:=ifF hM hb2
  refine Cf hb2 ?_
  refine zaz ?_
  refine Ws ?_
  refine Sq ?_
  have hS0:=hS
  refine zcD (n:=9) rfl (by kernel_rfl) ?_
  refine Of ((Box.cells a0)) zfZ ?_
  refine Olp (.i a0.Plays) zaf zav ?_
  refine Om (pA Box_.cells r1.1) ?_
  obtain ⟨r3,hr3,hM⟩:=zaj hM
  refine zau (bs:=[pA Box_.cells r1.1]) (by decide) rfl rfl ((zgG hr3).le (.k .nil)) ?_
  obtain ⟨r4,hr4,hM⟩:=zaj hM
  refine zau (bs:=[.sl .no 1 (r3.map cI)]) (by decide) rfl rfl ((zjF hr4).le (.k .nil)) ?_
  refine Oi (.i (w64 (a0.Plays-r4))) ?_
  refine ztL (v:=.i (max 0 (w64 (a0.Plays-r4)))) (by decide) rfl ?_
  refine Oa (.i (max 0 (w64 (a0.Plays-r4)))) ?_
  refine Oa (.i 0) ?_
  refine Ni ?_
  refine zff [(2,.i (max 0 (w64 (a0.Plays-r4)))),(3,.i 0)] (.k (.k .nil)) ?_
  refine zaQ ?_
  refine zaU (x:=.tup [.i (max 0 (w64 (a0.Plays-r4))),.i 0]) (f:=fun r=>.tup [.i r.1,.i r.2]) (.inr rfl) ?_ (.refl _) (Option.some.inj hM) hS
  exact (zc8 (zae (x:=.i (max 0 (w64 (a0.Plays-r4)))) rfl) (zae (x:=.i 0) rfl))
theorem zkK {r:Wheel} (hM:ziu=some r):zaF Try.prog 95 [] (.agg [.i r.Round,.sl .no 1 (r.Notches.map cI),.sl .no 1 (r.Coins.map cI)]):=by
 refine zak mixed Try.func95 rfl (by decide) Try.ntmps95 (by simp) ?pure fun H0 g hf=>?_
 case pure=>exact .agg _ (zac (.v _) (zac (.sl _ _ (zaE (fun x=>(zac (.v _) zaK)))) (zac (.sl _ _ (zaE (fun x=>(zac (.v _) zaK)))) zaK)))
 rw [zag]
 change wpA _ _ _ _ (Fr.of []) H0 g
 have hS:=St.start hf
 refine Sq ?_
 refine Rg 1 ?_
 refine zck hS (by decide) zmT (by omega) fun H hS=>?_
 refine Ni ?_
 refine Ws ?_
 refine Sq ?_
 refine Rg 4 ?_
 refine zbD (es:=[[.i 10],[.i 20],[.i 25]]) hS (by decide) zaG zdj rfl zcY rfl (by decide) (by omega) fun H hS=>?_
 refine zbD (es:=[[.i 5],[.i 10],[.i 25]]) hS (by decide) zaG zdj rfl zcY rfl (by decide) (by omega) fun H hS=>?_
 refine zb9 (cs:=[.i 50,.sl (.id (g+1+0)) 1 (([10,20,25]:List Int).map cI),.sl (.id (g+1+1)) 1 (([5,10,25]:List Int).map cI)]) (by decide) zmT ztZ rfl ?_
 refine za0 (v:=.agg [.i 50,.sl (.id (g+1+0)) 1 (([10,20,25]:List Int).map cI),.sl (.id (g+1+1)) 1 (([5,10,25]:List Int).map cI)]) (ns:=[.i 50,.sl (.id (g+1+0)) 1 (([10,20,25]:List Int).map cI),.sl (.id (g+1+1)) 1 (([5,10,25]:List Int).map cI)]) (L':=[(g+1+1,.row 3 3),(g+1+0,.row 3 3),(g+0,.cells [.i 50,.sl (.id (g+1+0)) 1 (([10,20,25]:List Int).map cI),.sl (.id (g+1+1)) 1 (([5,10,25]:List Int).map cI)])]) 2 hS rfl rfl .no rfl rfl zsB nlb rfl fun H hS=>?_
 refine Ni ?_
 refine zff [(0,.ptr (g+0) 0)] (.k .nil) ?_
 refine zaQ ?_
 refine zaU (x:=.agg [.i 50,.sl (.id (g+1+0)) 1 (([10,20,25]:List Int).map cI),.sl (.id (g+1+1)) 1 (([5,10,25]:List Int).map cI)]) (f:=fun r=>.agg [.i r.Round,.sl .no 1 (r.Notches.map cI),.sl .no 1 (r.Coins.map cI)]) (.inr rfl) ?_ (.aggL (.k (.cons (.sl _ _ _) (.cons (.sl _ _ _) .nil)))) (Option.some.inj hM) hS
 exact (zas (zdw (x:=.agg [.i 50,.sl (.id (g+1+0)) 1 (([10,20,25]:List Int).map cI),.sl (.id (g+1+1)) 1 (([5,10,25]:List Int).map cI)]) 2 hS rfl rfl (pg zb0)))
theorem zkL {r:Box} (hM:zgT=some r):zaF Try.prog 58 [] (.agg [.i r.Wheel.Round,.sl .no 1 (r.Wheel.Notches.map cI),.sl .no 1 (r.Wheel.Coins.map cI),.sl .no 1 (r.Found.map cI),.sl .no 1 (r.Marked.map cI),.sl .no 1 (r.Slugs.map cI),.i r.Plays,.i r.Skips]):=by
 refine zak mixed Try.func58 rfl (by decide) Try.ntmps58 (by simp) ?pure fun H0 g hf=>?_
 case pure=>exact .agg _ (zac (.v _) (zac (.sl _ _ (zaE (fun x=>(zac (.v _) zaK)))) (zac (.sl _ _ (zaE (fun x=>(zac (.v _) zaK)))) (zac (.sl _ _ (zaE (fun x=>(zac (.v _) zaK)))) (zac (.sl _ _ (zaE (fun x=>(zac (.v _) zaK)))) (zac (.sl _ _ (zaE (fun x=>(zac (.v _) zaK)))) (zac (.v _) (zac (.v _) zaK))))))))
 rw [zag]
 change wpA _ _ _ _ (Fr.of []) H0 g
 have hS:=St.start hf
 refine Sq ?_
 refine Rg 1 ?_
 refine zck hS (by decide) zku (by omega) fun H hS=>?_
 refine Ni ?_
 refine Ws ?_
 refine Sq ?_
 refine Rg 6 ?_
 obtain ⟨r1,hr1,hM⟩:=zaj hM
 refine zau (bs:=[]) (by decide) rfl rfl ((zkK hr1).le .nil) ?_
 refine zbD (es:=[[.i 0],[.i 2],[.i 1]]) hS (by decide) zaG zdj rfl zcY rfl (by decide) (by omega) fun H hS=>?_
 refine zbD (es:=[[.i 0],[.i 1],[.i 0]]) hS (by decide) zaG zdj rfl zcY rfl (by decide) (by omega) fun H hS=>?_
 refine zbD (es:=[[.i 0],[.i 0],[.i 0]]) hS (by decide) zaG zdj rfl zcY rfl (by decide) (by omega) fun H hS=>?_
 refine zb9 (cs:=[.i r1.Round,.sl .no 1 (r1.Notches.map cI),.sl .no 1 (r1.Coins.map cI),.sl (.id (g+1+1)) 1 (([0,2,1]:List Int).map cI),.sl (.id (g+1+2)) 1 (([0,1,0]:List Int).map cI),.sl (.id (g+1+3)) 1 (([0,0,0]:List Int).map cI),.i 6,.i 0]) (by decide) zku zt0 rfl ?_
 refine za0 (v:=.agg [.i r1.Round,.sl .no 1 (r1.Notches.map cI),.sl .no 1 (r1.Coins.map cI),.sl (.id (g+1+1)) 1 (([0,2,1]:List Int).map cI),.sl (.id (g+1+2)) 1 (([0,1,0]:List Int).map cI),.sl (.id (g+1+3)) 1 (([0,0,0]:List Int).map cI),.i 6,.i 0]) (ns:=[.i r1.Round,.sl .no 1 (r1.Notches.map cI),.sl .no 1 (r1.Coins.map cI),.sl (.id (g+1+1)) 1 (([0,2,1]:List Int).map cI),.sl (.id (g+1+2)) 1 (([0,1,0]:List Int).map cI),.sl (.id (g+1+3)) 1 (([0,0,0]:List Int).map cI),.i 6,.i 0]) (L':=[(g+1+3,.row 3 3),(g+1+2,.row 3 3),(g+1+1,.row 3 3),(g+0,.cells [.i r1.Round,.sl .no 1 (r1.Notches.map cI),.sl .no 1 (r1.Coins.map cI),.sl (.id (g+1+1)) 1 (([0,2,1]:List Int).map cI),.sl (.id (g+1+2)) 1 (([0,1,0]:List Int).map cI),.sl (.id (g+1+3)) 1 (([0,0,0]:List Int).map cI),.i 6,.i 0])]) 3 hS rfl rfl .no rfl rfl zoV nlb rfl fun H hS=>?_
 refine Ni ?_
 refine zff [(0,.ptr (g+0) 0)] (.k .nil) ?_
 refine zaQ ?_
 refine zaU (x:=.agg [.i r1.Round,.sl .no 1 (r1.Notches.map cI),.sl .no 1 (r1.Coins.map cI),.sl (.id (g+1+1)) 1 (([0,2,1]:List Int).map cI),.sl (.id (g+1+2)) 1 (([0,1,0]:List Int).map cI),.sl (.id (g+1+3)) 1 (([0,0,0]:List Int).map cI),.i 6,.i 0]) (f:=fun r=>.agg [.i r.Wheel.Round,.sl .no 1 (r.Wheel.Notches.map cI),.sl .no 1 (r.Wheel.Coins.map cI),.sl .no 1 (r.Found.map cI),.sl .no 1 (r.Marked.map cI),.sl .no 1 (r.Slugs.map cI),.i r.Plays,.i r.Skips]) (.inr rfl) ?_ (.aggL (.k (.k (.k (.cons (.sl _ _ _) (.cons (.sl _ _ _) (.cons (.sl _ _ _) (.k (.k .nil))))))))) (Option.some.inj hM) hS
 exact (zas (zdw (x:=.agg [.i r1.Round,.sl .no 1 (r1.Notches.map cI),.sl .no 1 (r1.Coins.map cI),.sl (.id (g+1+1)) 1 (([0,2,1]:List Int).map cI),.sl (.id (g+1+2)) 1 (([0,1,0]:List Int).map cI),.sl (.id (g+1+3)) 1 (([0,0,0]:List Int).map cI),.i 6,.i 0]) 3 hS rfl rfl (pg zba)))
theorem zg2 {n:Nat} {r:Bool} (hM:zeZ n=some r):zaF Try.prog 16 [] (.b r):=by
 refine zak mixed Try.func16 rfl (by decide) Try.ntmps16 (by simp) ?pure fun H0 g hf=>?_
 case pure=>exact .v _
 rw [zag]
 change wpA _ _ _ _ (Fr.of []) H0 g
 have hS:=St.start hf
 refine Sq ?_
 refine Rg 1 ?_
 refine Oa (.b false) ?_
 refine Ni ?_
 refine Ws ?_
 refine Sq ?_
 refine Rg 3 ?_
 obtain ⟨r1,hr1,hM⟩:=zaj hM
 refine zau (bs:=[]) (by decide) rfl rfl ((zkL hr1).le .nil) ?_
 refine zck hS (by decide) zku (by omega) fun H hS=>?_
 refine za0 (v:=.agg (Box.cells r1)) (ns:=(Box.cells r1)) (L':=[(g+1+1,.cells (Box.cells r1))]) 0 hS rfl rfl .no rfl rfl zoV nlb rfl fun H hS=>?_
 refine Ni ?_
 refine zbk (L':=[]) 0 1 hS rfl rfl rfl fun H hS=>?_
 refine Ws ?_
 refine Sq ?_
 refine Rg 7 ?_
 refine Olg (.agg (Box.cells r1)) zba ?_
 obtain ⟨r2,hr2,hM⟩:=zaj hM
 refine zau (bs:=[.agg (Box.cells r1)]) (by decide) rfl rfl ((ziS hr2).le (.k .nil)) ?_
 refine Om (.tup [.sl .no 1 (r2.1.map cI),.i r2.2]) ?_
 refine Ox (.sl .no 1 (r2.1.map cI)) ?_
 refine Ox (.i r2.2) ?_
 refine Oa (.sl .no 1 (r2.1.map cI)) ?_
 refine Oa (.i r2.2) ?_
 refine Ni ?_
 refine Ws ?_
 refine Sq ?_
 refine Rg 11 ?_
 refine Olg (.agg (Box.cells r1)) zba ?_
 obtain ⟨r3,hr3,hM⟩:=zaj hM
 refine zau (bs:=[.agg (Box.cells r1)]) (by decide) rfl rfl ((zlb hr3).le (.k .nil)) ?_
 refine Om (.tup [.i r3.1,.i r3.2.1,.i r3.2.2.1,.i r3.2.2.2]) ?_
 refine Ox (.i r3.1) ?_
 refine Ox (.i r3.2.1) ?_
 refine Ox (.i r3.2.2.1) ?_
 refine Ox (.i r3.2.2.2) ?_
 refine Oa (.i r3.1) ?_
 refine Oa (.i r3.2.1) ?_
 refine Oa (.i r3.2.2.1) ?_
 refine Oa (.i r3.2.2.2) ?_
 refine Ni ?_
 refine Ws ?_
 refine Sq ?_
 refine Rg 7 ?_
 refine Olg (.agg (Box.cells r1)) zba ?_
 obtain ⟨r4,hr4,hM⟩:=zaj hM
 refine zau (bs:=[.agg (Box.cells r1)]) (by decide) rfl rfl ((zgI hr4).le (.k .nil)) ?_
 refine Om (.tup [.i r4.1,.i r4.2]) ?_
 refine Ox (.i r4.1) ?_
 refine Ox (.i r4.2) ?_
 refine Oa (.i r4.1) ?_
 refine Oa (.i r4.2) ?_
 refine Ni ?_
 refine Ws ?_
 refine Sq ?_
 refine Rg 7 ?_
 refine Olg (.agg (Box.cells r1)) zba ?_
 obtain ⟨r5,hr5,hM⟩:=zaj hM
 refine zau (bs:=[.agg (Box.cells r1)]) (by decide) rfl rfl ((zkJ hr5).le (.k .nil)) ?_
 refine Om (.tup [.i r5.1,.i r5.2]) ?_
 refine Ox (.i r5.1) ?_
 refine Ox (.i r5.2) ?_
 refine Oa (.i r5.1) ?_
 refine Oa (.i r5.2) ?_
 refine Ni ?_
 refine Ws ?_
 refine zaS (J:=Bool) (fun j=>[(0,.b j)]) (fun j H' g'=>St (·<g) H0 [] H' g'/\zbx j=some r) ?_ ?_
 ·rintro v6 H g1 ⟨hS,hM⟩
  change wpA _ _ _ _ (Fr.of [(0,.b v6)]) _ _
  replace hS:St (·<g) H0 [] H g1:=hS
  replace hM:zbx v6=some r:=hM
  refine zaQ ?_
  refine zaU (x:=.b v6) (f:=fun r=>.b r) (.inr rfl) ?_ (.refl _) (Option.some.inj hM) hS
  exact (zas (zae (x:=.b v6) rfl))
 ·refine Rg 36 ?_
  refine Om (.i r2.2) ?_
  refine Oi (.b (r2.2==0)) ?_
  refine Om (.b (r2.2==0)) ?_
  rcases bft (r2.2==0) with hb7 | hb7
  ·replace hM:=ifT hM hb7
   refine Oy (want:=true) hb7 ?_
   refine Om (.i r3.2.2.2) ?_
   refine Oy (want:=true) hb7 ?_
   refine Oi (.b (r3.2.2.2==0)) ?_
   refine Pt (.b (r3.2.2.2==0)) hb7 ?_
   refine Om (.b (r3.2.2.2==0)) ?_
   rcases bft (r3.2.2.2==0) with hb8 | hb8
   ·replace hM:=ifT hM hb8
    refine Oy (want:=true) hb8 ?_
    refine Om (.i r4.2) ?_
    refine Oy (want:=true) hb8 ?_
    refine Oi (.b (r4.2==0)) ?_
    refine Pt (.b (r4.2==0)) hb8 ?_
    refine Om (.b (r4.2==0)) ?_
    rcases bft (r4.2==0) with hb9 | hb9
    ·replace hM:=ifT hM hb9
     refine Oy (want:=true) hb9 ?_
     refine Om (.i r5.2) ?_
     refine Oy (want:=true) hb9 ?_
     refine Oi (.b (r5.2==0)) ?_
     refine Pt (.b (r5.2==0)) hb9 ?_
     refine Om (.b (r5.2==0)) ?_
     rcases bft (r5.2==0) with hb10 | hb10
     ·replace hM:=ifT hM hb10
      refine Oy (want:=true) hb10 ?_
      refine Om (.sl .no 1 (r2.1.map cI)) ?_
      refine Oy (want:=true) hb10 ?_
      refine zbD (es:=[[.i 3],[.i 4],[.i 5]]) hS (by decide) zaG zdj rfl zcY rfl (by decide) (by omega) fun H hS=>?_
      refine Oy (want:=true) hb10 ?_
      obtain ⟨r11,hr11,hM⟩:=zaj hM
      refine zau (bs:=[.sl .no 1 (r2.1.map cI),.sl (.id (g+1+3+7+11+7+7+16)) 1 (([3,4,5]:List Int).map cI)]) (by decide) rfl rfl ((zg7 hr11).le (.k (.cons (.sl _ _ _) .nil))) ?_
      refine Pt (.b r11) hb10 ?_
      refine Om (.b r11) ?_
      rcases bft r11 with hb12 | hb12
      ·replace hM:=ifT hM hb12
       refine Oy (want:=true) hb12 ?_
       refine Om (.i r3.1) ?_
       refine Oy (want:=true) hb12 ?_
       refine Oi (.b (r3.1==35)) ?_
       refine Pt (.b (r3.1==35)) hb12 ?_
       refine Om (.b (r3.1==35)) ?_
       rcases bft (r3.1==35) with hb13 | hb13
       ·replace hM:=ifT hM hb13
        refine Oy (want:=true) hb13 ?_
        refine Om (.i r3.2.1) ?_
        refine Oy (want:=true) hb13 ?_
        refine Oi (.b (r3.2.1==10)) ?_
        refine Pt (.b (r3.2.1==10)) hb13 ?_
        refine Om (.b (r3.2.1==10)) ?_
        rcases bft (r3.2.1==10) with hb14 | hb14
        ·replace hM:=ifT hM hb14
         refine Oy (want:=true) hb14 ?_
         refine Om (.i r4.1) ?_
         refine Oy (want:=true) hb14 ?_
         refine Oi (.b (r4.1==5)) ?_
         refine Pt (.b (r4.1==5)) hb14 ?_
         refine Om (.b (r4.1==5)) ?_
         rcases bft (r4.1==5) with hb15 | hb15
         ·replace hM:=ifT hM hb15
          refine Oy (want:=true) hb15 ?_
          refine Om (.i r5.1) ?_
          refine Oy (want:=true) hb15 ?_
          refine Oi (.b (r5.1==1)) ?_
          refine Pt (.b (r5.1==1)) hb15 ?_
          refine Oa (.b (r5.1==1)) ?_
          refine Ni ?_
          exact zah (r5.1==1) (.k .nil) ⟨(hS.keep [false] rfl).up (by omega),hM⟩
         ·replace hM:=ifF hM hb15
          refine On (want:=true) hb15 ?_
          refine On (want:=true) hb15 ?_
          refine Pf (.b false) hb15 ?_
          refine Oa (.b false) ?_
          refine Ni ?_
          exact zah false (.k .nil) ⟨(hS.keep [false] rfl).up (by omega),hM⟩
        ·replace hM:=ifF hM hb14
         refine On (want:=true) hb14 ?_
         refine On (want:=true) hb14 ?_
         refine Pf (.b false) hb14 ?_
         refine Om (.b false) ?_
         refine Og ?_
         refine Og ?_
         refine zbp (v:=.b false) (e:=false) (by decide) rfl rfl rfl ?_
         refine Oa (.b false) ?_
         refine Ni ?_
         exact zah false (.k .nil) ⟨(hS.keep [false] rfl).up (by omega),hM⟩
       ·replace hM:=ifF hM hb13
        refine On (want:=true) hb13 ?_
        refine On (want:=true) hb13 ?_
        refine Pf (.b false) hb13 ?_
        refine Om (.b false) ?_
        refine Og ?_
        refine Og ?_
        refine zbp (v:=.b false) (e:=false) (by decide) rfl rfl rfl ?_
        refine Om (.b false) ?_
        refine Og ?_
        refine Og ?_
        refine zbp (v:=.b false) (e:=false) (by decide) rfl rfl rfl ?_
        refine Oa (.b false) ?_
        refine Ni ?_
        exact zah false (.k .nil) ⟨(hS.keep [false] rfl).up (by omega),hM⟩
      ·replace hM:=ifF hM hb12
       refine On (want:=true) hb12 ?_
       refine On (want:=true) hb12 ?_
       refine Pf (.b false) hb12 ?_
       refine Om (.b false) ?_
       refine Og ?_
       refine Og ?_
       refine zbp (v:=.b false) (e:=false) (by decide) rfl rfl rfl ?_
       refine Om (.b false) ?_
       refine Og ?_
       refine Og ?_
       refine zbp (v:=.b false) (e:=false) (by decide) rfl rfl rfl ?_
       refine Om (.b false) ?_
       refine Og ?_
       refine Og ?_
       refine zbp (v:=.b false) (e:=false) (by decide) rfl rfl rfl ?_
       refine Oa (.b false) ?_
       refine Ni ?_
       exact zah false (.k .nil) ⟨(hS.keep [false] rfl).up (by omega),hM⟩
     ·replace hM:=ifF hM hb10
      refine On (want:=true) hb10 ?_
      refine On (want:=true) hb10 ?_
      refine On (want:=true) hb10 ?_
      refine Pf (.b false) hb10 ?_
      refine Om (.b false) ?_
      refine Og ?_
      refine Og ?_
      refine zbp (v:=.b false) (e:=false) (by decide) rfl rfl rfl ?_
      refine Om (.b false) ?_
      refine Og ?_
      refine Og ?_
      refine zbp (v:=.b false) (e:=false) (by decide) rfl rfl rfl ?_
      refine Om (.b false) ?_
      refine Og ?_
      refine Og ?_
      refine zbp (v:=.b false) (e:=false) (by decide) rfl rfl rfl ?_
      refine Om (.b false) ?_
      refine Og ?_
      refine Og ?_
      refine zbp (v:=.b false) (e:=false) (by decide) rfl rfl rfl ?_
      refine Oa (.b false) ?_
      refine Ni ?_
      exact zah false (.k .nil) ⟨(hS.keep [] rfl).up (by omega),hM⟩
    ·replace hM:=ifF hM hb9
     refine On (want:=true) hb9 ?_
     refine On (want:=true) hb9 ?_
     refine Pf (.b false) hb9 ?_
     refine Om (.b false) ?_
     refine Og ?_
     refine Og ?_
     refine Og ?_
     refine zbp (v:=.b false) (e:=false) (by decide) rfl rfl rfl ?_
     refine Om (.b false) ?_
     refine Og ?_
     refine Og ?_
     refine zbp (v:=.b false) (e:=false) (by decide) rfl rfl rfl ?_
     refine Om (.b false) ?_
     refine Og ?_
     refine Og ?_
     refine zbp (v:=.b false) (e:=false) (by decide) rfl rfl rfl ?_
     refine Om (.b false) ?_
     refine Og ?_
     refine Og ?_
     refine zbp (v:=.b false) (e:=false) (by decide) rfl rfl rfl ?_
     refine Om (.b false) ?_
     refine Og ?_
     refine Og ?_
     refine zbp (v:=.b false) (e:=false) (by decide) rfl rfl rfl ?_
     refine Oa (.b false) ?_
     refine Ni ?_
     exact zah false (.k .nil) ⟨(hS.keep [] rfl).up (by omega),hM⟩
   ·replace hM:=ifF hM hb8
    refine On (want:=true) hb8 ?_
    refine On (want:=true) hb8 ?_
    refine Pf (.b false) hb8 ?_
    refine Om (.b false) ?_
    refine Og ?_
    refine Og ?_
    refine zbp (v:=.b false) (e:=false) (by decide) rfl rfl rfl ?_
    refine Om (.b false) ?_
    refine Og ?_
    refine Og ?_
    refine Og ?_
    refine zbp (v:=.b false) (e:=false) (by decide) rfl rfl rfl ?_
    refine Om (.b false) ?_
    refine Og ?_
    refine Og ?_
    refine zbp (v:=.b false) (e:=false) (by decide) rfl rfl rfl ?_
    refine Om (.b false) ?_
    refine Og ?_
    refine Og ?_
    refine zbp (v:=.b false) (e:=false) (by decide) rfl rfl rfl ?_
    refine Om (.b false) ?_
    refine Og ?_
    refine Og ?_
    refine zbp (v:=.b false) (e:=false) (by decide) rfl rfl rfl ?_
    refine Om (.b false) ?_
    refine Og ?_
    refine Og ?_
    refine zbp (v:=.b false) (e:=false) (by decide) rfl rfl rfl ?_
    refine Oa (.b false) ?_
    refine Ni ?_
    exact zah false (.k .nil) ⟨(hS.keep [] rfl).up (by omega),hM⟩
  ·replace hM:=ifF hM hb7
   refine On (want:=true) hb7 ?_
   refine On (want:=true) hb7 ?_
   refine Pf (.b false) hb7 ?_
   refine Om (.b false) ?_
   refine Og ?_
   refine Og ?_
   refine zbp (v:=.b false) (e:=false) (by decide) rfl rfl rfl ?_
   refine Om (.b false) ?_
   refine Og ?_
   refine Og ?_
   refine zbp (v:=.b false) (e:=false) (by decide) rfl rfl rfl ?_
   refine Om (.b false) ?_
   refine Og ?_
   refine Og ?_
   refine Og ?_
   refine zbp (v:=.b false) (e:=false) (by decide) rfl rfl rfl ?_
   refine Om (.b false) ?_
   refine Og ?_
   refine Og ?_
   refine zbp (v:=.b false) (e:=false) (by decide) rfl rfl rfl ?_
   refine Om (.b false) ?_
   refine Og ?_
   refine Og ?_
   refine zbp (v:=.b false) (e:=false) (by decide) rfl rfl rfl ?_
   refine Om (.b false) ?_
   refine Og ?_
   refine Og ?_
   refine zbp (v:=.b false) (e:=false) (by decide) rfl rfl rfl ?_
   refine Om (.b false) ?_
   refine Og ?_
   refine Og ?_
   refine zbp (v:=.b false) (e:=false) (by decide) rfl rfl rfl ?_
   refine Oa (.b false) ?_
   refine Ni ?_
   exact zah false (.k .nil) ⟨(hS.keep [] rfl).up (by omega),hM⟩
theorem zkM {a0:Int} {r:Bool} (hM:zgU a0=some r):zaF Try.prog 22 [.i a0] (.b r):=by
 refine zak mixed Try.func22 rfl (by decide) Try.ntmps22 (by simp) ?pure fun H0 g hf=>?_
 case pure=>exact .v _
 rw [zag]
 change wpA _ _ _ _ (Fr.of [(0,.i a0)]) H0 g
 have hS:=St.start hf
 refine Sq ?_
 refine Rg 1 ?_
 refine Oa (.b false) ?_
 refine Ni ?_
 refine Ws ?_
 refine zaS (J:=Bool) (fun j=>[(2,.b j)]) (fun j H' g'=>St (·<g) H0 [] H' g'/\zen j=some r) ?_ ?_
 ·rintro v1 H g1 ⟨hS,hM⟩
  change wpA _ _ _ _ (Fr.of [(2,.b v1)]) _ _
  replace hS:St (·<g) H0 [] H g1:=hS
  replace hM:zen v1=some r:=hM
  refine zaQ ?_
  refine zaU (x:=.b v1) (f:=fun r=>.b r) (.inr rfl) ?_ (.refl _) (Option.some.inj hM) hS
  exact (zas (zae (x:=.b v1) rfl))
 ·refine Rg 7 ?_
  refine Om (.i a0) ?_
  refine Oi (.b (a0==0)) ?_
  refine Om (.b (a0==0)) ?_
  rcases bft (a0==0) with hb2 | hb2
  ·replace hM:=ifT hM hb2
   refine On (want:=false) hb2 ?_
   refine On (want:=false) hb2 ?_
   refine Pt (.b true) hb2 ?_
   refine Oa (.b true) ?_
   refine Ni ?_
   exact zah true (.k .nil) ⟨(hS.keep [] rfl).up (by omega),hM⟩
  ·replace hM:=ifF hM hb2
   refine Oy (want:=false) hb2 ?_
   refine Om (.i a0) ?_
   refine Oy (want:=false) hb2 ?_
   refine Oi (.b (a0==3)) ?_
   refine Pf (.b (a0==3)) hb2 ?_
   refine Oa (.b (a0==3)) ?_
   refine Ni ?_
   exact zah (a0==3) (.k .nil) ⟨(hS.keep [] rfl).up (by omega),hM⟩
theorem zgh {n:Nat} {a0:Wheel} {a1:List Int} {r:Int} (hM:zeo n a0 a1=some r):zaF Try.prog 23 [.agg (Wheel.cells a0),.sl .no 1 (a1.map cI)] (.i r):=by
 refine zak mixed Try.func23 rfl (by decide) Try.ntmps23 (by simp) ?pure fun H0 g hf=>?_
 case pure=>exact .v _
 rw [zag]
 change wpA _ _ _ _ (Fr.of [(0,.agg (Wheel.cells a0)),(1,.sl .no 1 (a1.map cI))]) H0 g
 have hS:=St.start hf
 refine Sq ?_
 refine Rg 2 ?_
 refine zcC (v:=.agg (Wheel.cells a0)) (cs:=(Wheel.cells a0)) hS (by decide) rfl rfl (by omega) fun H hS=>?_
 refine Oa (.i 0) ?_
 refine Ni ?_
 refine zbk (L':=[]) 0 2 hS rfl rfl rfl fun H hS=>?_
 refine Ws ?_
 refine Sq ?_
 refine Rg 1 ?_
 refine Oa (.i 0) ?_
 refine Ni ?_
 refine Ws ?_
 refine zaS (J:=Int) (fun j=>[(5,.i j)]) (fun j H' g'=>St (·<g) H0 [] H' g'/\zdg j=some r) ?_ ?_
 ·rintro v1 H g1 ⟨hS,hM⟩
  change wpA _ _ _ _ (Fr.of [(5,.i v1)]) _ _
  replace hS:St (·<g) H0 [] H g1:=hS
  replace hM:zdg v1=some r:=hM
  refine Sq ?_
  refine Rg 2 ?_
  refine Om (.i v1) ?_
  refine Oa (.i v1) ?_
  refine Ni ?_
  refine Ws ?_
  refine zaQ ?_
  refine zaU (x:=.i v1) (f:=fun r=>.i r) (.inr rfl) ?_ (.refl _) (Option.some.inj hM) hS
  exact (zas (zae (x:=.i v1) rfl))
 ·refine Sq ?_
  refine Rg 1 ?_
  refine Oa (.i 0) ?_
  refine Ni ?_
  refine Ws ?_
  refine zay ?_
  refine zbU (V:=Int×Int) (fun v=>[(1,.sl .no 1 (a1.map cI)),(2,.ep (Wheel.cells a0)),(5,.i v.1),(6,.i v.2)]) (fun v m2 H' g'=>St (·<g) H0 [] H' g'/\zbC a0 a1 m2 v.1 v.2=some r) (n:=n) (0,0) (.k (.k (.k (.k .nil)))) ⟨(hS.keep [] rfl).up (by omega),hM⟩ ?_
  rintro ⟨v2,v3⟩ m2 H g2 ⟨hS,hM⟩
  obtain _ | m2:=m2
  ·exact nomatch (show none=some _ from hM)
  change wpA _ _ _ _ (Fr.of [(1,.sl .no 1 (a1.map cI)),(2,.ep (Wheel.cells a0)),(5,.i v2),(6,.i v3)]) _ _
  replace hS:St (·<g) H0 [] H g2:=hS
  replace hM:zcL a0 a1 (zbC a0 a1 m2) v2 v3=some r:=hM
  refine Sq ?_
  refine Sq ?_
  refine Rg 4 ?_
  refine Om (.i v3) ?_
  refine Om (.sl .no 1 (a1.map cI)) ?_
  refine zbu (n:=a1.length) (by decide) rfl (List.length_map _) zax ?_
  refine Oi (.b (decide (v3<(a1.length:Int)))) ?_
  refine Ni ?_
  refine Ws ?_
  rcases bft (decide (v3<(a1.length:Int))) with hb4 | hb4
  ·replace hM:=ifT hM hb4
   refine Ct hb4 ?_
   refine zaz ?_
   refine Ws ?_
   refine Sq ?_
   refine zay ?_
   have hS0:=hS
   refine zcD (n:=13) rfl (by kernel_rfl) ?_
   refine Om (.i v2) ?_
   refine Om (.sl .no 1 (a1.map cI)) ?_
   refine Om (.i v3) ?_
   obtain ⟨x5,hx5,hM⟩:=zaj hM
   refine zaW (xs:=a1) (f:=cI) (z:=v3) (u:=x5) (by decide) rfl rfl zaG hx5 ?_
   refine Olp (.i x5) zaf zav ?_
   refine Of ((Wheel.cells a0)) zcs ?_
   refine Olp (.sl .no 1 (a0.Coins.map cI)) zaA zaO ?_
   refine Om (.i v3) ?_
   obtain ⟨x6,hx6,hM⟩:=zaj hM
   refine zaW (xs:=a0.Coins) (f:=cI) (z:=v3) (u:=x6) (by decide) rfl rfl zaG hx6 ?_
   refine Olp (.i x6) zaf zav ?_
   refine Oi (.i (w64 (x5*x6))) ?_
   refine Oi (.i (w64 (v2+(w64 (x5*x6))))) ?_
   refine Oa (.i (w64 (v2+(w64 (x5*x6))))) ?_
   refine Ni ?_
   refine zal ?_
   refine Ws ?_
   refine Rg 3 ?_
   refine Om (.i v3) ?_
   refine Oi (.i (w64 (v3+1))) ?_
   refine Oa (.i (w64 (v3+1))) ?_
   refine Ni ?_
   exact za6 (w64 (v2+(w64 (x5*x6))),w64 (v3+1)) (Nat.lt_succ_self _) (.k (.k (.k (.k .nil)))) ⟨(hS.keep [] rfl).up (by omega),hM⟩
  ·replace hM:=ifF hM hb4
   refine Cf hb4 ?_
   refine zbM ?_
   refine zat ?_
   refine zap ?_
   refine zaD ?_
   exact zah v2 (.k .nil) ⟨(hS.keep [] rfl).up (by omega),hM⟩
theorem zjG {n:Nat} {a0:Wheel} {a1:List Int} {a2:Int} {r:Bool} (hM:zgn n a0 a1 a2=some r):zaF Try.prog 64 [.agg (Wheel.cells a0),.sl .no 1 (a1.map cI),.i a2] (.b r):=by
 refine zak mixed Try.func64 rfl (by decide) Try.ntmps64 (by simp) ?pure fun H0 g hf=>?_
 case pure=>exact .v _
 rw [zag]
 change wpA _ _ _ _ (Fr.of [(0,.agg (Wheel.cells a0)),(1,.sl .no 1 (a1.map cI)),(2,.i a2)]) H0 g
 have hS:=St.start hf
 refine Sq ?_
 refine Rg 2 ?_
 refine zcC (v:=.agg (Wheel.cells a0)) (cs:=(Wheel.cells a0)) hS (by decide) rfl rfl (by omega) fun H hS=>?_
 refine Oa (.b false) ?_
 refine Ni ?_
 refine zbk (L':=[]) 0 3 hS rfl rfl rfl fun H hS=>?_
 refine Ws ?_
 refine zaS (J:=Unit) (fun j=>[(1,.sl .no 1 (a1.map cI))]) (fun j H' g'=>St (·<g) H0 [] H' g'/\zd2 a1=some r) ?_ ?_
 ·rintro _ H g1 ⟨hS,hM⟩
  change wpA _ _ _ _ (Fr.of [(1,.sl .no 1 (a1.map cI))]) _ _
  replace hS:St (·<g) H0 [] H g1:=hS
  replace hM:zd2 a1=some r:=hM
  refine Sq ?_
  refine Rg 4 ?_
  refine Om (.sl .no 1 (a1.map cI)) ?_
  refine zbu (n:=a1.length) (by decide) rfl (List.length_map _) zax ?_
  refine Oi (.b (decide ((a1.length:Int)<=20))) ?_
  refine Oa (.b (decide ((a1.length:Int)<=20))) ?_
  refine Ni ?_
  refine Ws ?_
  refine zaQ ?_
  refine zaU (x:=.b (decide ((a1.length:Int)<=20))) (f:=fun r=>.b r) (.inr rfl) ?_ (.refl _) (Option.some.inj hM) hS
  exact (zas (zae (x:=.b (decide ((a1.length:Int)<=20))) rfl))
 ·refine Sq ?_
  refine Rg 1 ?_
  refine Oa (.i 0) ?_
  refine Ni ?_
  refine Ws ?_
  refine zay ?_
  refine zbU (V:=Int) (fun v=>[(1,.sl .no 1 (a1.map cI)),(2,.i a2),(3,.ep (Wheel.cells a0)),(7,.i v)]) (fun v m2 H' g'=>St (·<g) H0 [] H' g'/\zb5 a0 a1 a2 m2 v=some r) (n:=n) 0 (.k (.k (.k (.k .nil)))) ⟨(hS.keep [] rfl).up (by omega),hM⟩ ?_
  rintro v1 m2 H g2 ⟨hS,hM⟩
  obtain _ | m2:=m2
  ·exact nomatch (show none=some _ from hM)
  change wpA _ _ _ _ (Fr.of [(1,.sl .no 1 (a1.map cI)),(2,.i a2),(3,.ep (Wheel.cells a0)),(7,.i v1)]) _ _
  replace hS:St (·<g) H0 [] H g2:=hS
  replace hM:zdh a0 a1 a2 (zb5 a0 a1 a2 m2) v1=some r:=hM
  refine Sq ?_
  refine Sq ?_
  refine Rg 4 ?_
  refine Om (.i v1) ?_
  refine Om (.sl .no 1 (a1.map cI)) ?_
  refine zbu (n:=a1.length) (by decide) rfl (List.length_map _) zax ?_
  refine Oi (.b (decide (v1<(a1.length:Int)))) ?_
  refine Ni ?_
  refine Ws ?_
  rcases bft (decide (v1<(a1.length:Int))) with hb2 | hb2
  ·replace hM:=ifT hM hb2
   refine Ct hb2 ?_
   refine zaz ?_
   refine Ws ?_
   refine Sq ?_
   refine zay ?_
   refine Sq ?_
   have hS0:=hS
   refine zcD (n:=11) rfl (by kernel_rfl) ?_
   refine Om (.sl .no 1 (a1.map cI)) ?_
   refine Om (.i v1) ?_
   obtain ⟨x3,hx3,hM⟩:=zaj hM
   refine zaW (xs:=a1) (f:=cI) (z:=v1) (u:=x3) (by decide) rfl rfl zaG hx3 ?_
   refine Olp (.i x3) zaf zav ?_
   refine Om (.i a2) ?_
   refine Of ((Wheel.cells a0)) zcs ?_
   refine Olp (.sl .no 1 (a0.Coins.map cI)) zaA zaO ?_
   refine zbu (n:=a0.Coins.length) (by decide) rfl (List.length_map _) zax ?_
   refine Oi (.i (w64 ((a0.Coins.length:Int)-1))) ?_
   obtain ⟨r4,hr4,hM⟩:=zaj hM
   refine zau (bs:=[.i x3,.i a2,.i (w64 ((a0.Coins.length:Int)-1))]) (by decide) rfl rfl ((zec hr4).le (.k (.k (.k .nil)))) ?_
   refine zdD (e:=r4) (by decide) rfl ?_
   refine Ni ?_
   refine Ws ?_
   rcases bft (!r4) with hb5 | hb5
   ·replace hM:=ifT hM hb5
    refine Ct hb5 ?_
    refine Sq ?_
    refine Rg 1 ?_
    refine Oa (.b false) ?_
    refine Ni ?_
    refine Ws ?_
    refine zaQ ?_
    refine za1 ?_
    refine zan ?_
    refine zcj ?_
    refine za1 ?_
    refine zcF ?_
    refine zaU (x:=.b false) (f:=fun r=>.b r) (.inr rfl) ?_ (.refl _) (Option.some.inj hM) hS
    exact (zas (zae (x:=.b false) rfl))
   ·replace hM:=ifF hM hb5
    refine Cf hb5 ?_
    refine zaz ?_
    refine zal ?_
    refine Ws ?_
    refine Rg 3 ?_
    refine Om (.i v1) ?_
    refine Oi (.i (w64 (v1+1))) ?_
    refine Oa (.i (w64 (v1+1))) ?_
    refine Ni ?_
    exact za6 (w64 (v1+1)) (Nat.lt_succ_self _) (.k (.k (.k (.k .nil)))) ⟨(hS.keep [] rfl).up (by omega),hM⟩
  ·replace hM:=ifF hM hb2
   refine Cf hb2 ?_
   refine zbM ?_
   refine zat ?_
   refine zap ?_
   refine zaD ?_
   exact zah () (.k .nil) ⟨(hS.keep [] rfl).up (by omega),hM⟩
theorem zme {n:Nat} {a0:Wheel} {a1:List Int} {r:Bool} (hM:zfV n a0 a1=some r):zaF Try.prog 24 [.agg (Wheel.cells a0),.sl .no 1 (a1.map cI)] (.b r):=by
 refine zak mixed Try.func24 rfl (by decide) Try.ntmps24 (by simp) ?pure fun H0 g hf=>?_
 case pure=>exact .v _
 rw [zag]
 change wpA _ _ _ _ (Fr.of [(0,.agg (Wheel.cells a0)),(1,.sl .no 1 (a1.map cI))]) H0 g
 have hS:=St.start hf
 refine Sq ?_
 refine Rg 2 ?_
 refine zcC (v:=.agg (Wheel.cells a0)) (cs:=(Wheel.cells a0)) hS (by decide) rfl rfl (by omega) fun H hS=>?_
 refine Oa (.b false) ?_
 refine Ni ?_
 refine zbk (L':=[]) 0 2 hS rfl rfl rfl fun H hS=>?_
 refine Ws ?_
 refine Sq ?_
 refine Rg 4 ?_
 refine Olg (.agg (Wheel.cells a0)) zb0 ?_
 refine Om (.sl .no 1 (a1.map cI)) ?_
 obtain ⟨r1,hr1,hM⟩:=zaj hM
 refine zau (bs:=[.agg (Wheel.cells a0),.sl .no 1 (a1.map cI),.i (-1)]) (by decide) rfl rfl ((zjG hr1).le (.k (.k (.k .nil)))) ?_
 refine Oa (.b r1) ?_
 refine Ni ?_
 refine zff [(4,.b r1)] (.k .nil) ?_
 refine zaQ ?_
 refine zaU (x:=.b r1) (f:=fun r=>.b r) (.inr rfl) ?_ (.refl _) (Option.some.inj hM) hS
 exact (zas (zae (x:=.b r1) rfl))
theorem zjg {n:Nat} {a0:Box} {r:(List Int)×(List Int)×Int} (hM:zcX n a0=some r):zaF Try.prog 25 [.agg (Box.cells a0)] (.tup [.sl .no 1 (r.1.map cI),.sl .no 1 (r.2.1.map cI),.i r.2.2]):=by
 refine zak mixed Try.func25 rfl (by decide) Try.ntmps25 (by simp) ?pure fun H0 g hf=>?_
 case pure=>exact .tup _ (zac (.sl _ _ (zaE (fun x=>(zac (.v _) zaK)))) (zac (.sl _ _ (zaE (fun x=>(zac (.v _) zaK)))) (zac (.v _) zaK)))
 rw [zag]
 change wpA _ _ _ _ (Fr.of [(0,.agg (Box.cells a0))]) H0 g
 have hS:=St.start hf
 refine Sq ?_
 refine Rg 4 ?_
 refine zcC (v:=.agg (Box.cells a0)) (cs:=(Box.cells a0)) hS (by decide) rfl rfl (by omega) fun H hS=>?_
 refine Oa (.sl .nil 0 []) ?_
 refine Oa (.sl .nil 0 []) ?_
 refine Oa (.i 0) ?_
 refine Ni ?_
 refine zbk (L':=[]) 0 1 hS rfl rfl rfl fun H hS=>?_
 refine Ws ?_
 refine Sq ?_
 refine Rg 9 ?_
 refine Olg (.agg (Box.cells a0)) zba ?_
 obtain ⟨r1,hr1,hM⟩:=zaj hM
 refine zau (bs:=[.agg (Box.cells a0)]) (by decide) rfl rfl ((zg6 hr1).le (.k .nil)) ?_
 refine Om (.tup [pA Box_.cells r1.1,.sl .no 2 (r1.2.1.map Gap_.cells),.i r1.2.2]) ?_
 refine Ox (pA Box_.cells r1.1) ?_
 refine Ox (.sl .no 2 (r1.2.1.map Gap_.cells)) ?_
 refine Ox (.i r1.2.2) ?_
 refine Oa (pA Box_.cells r1.1) ?_
 refine Oa (.sl .no 2 (r1.2.1.map Gap_.cells)) ?_
 refine Oa (.i r1.2.2) ?_
 refine Ni ?_
 refine Ws ?_
 refine Sq ?_
 refine Sq ?_
 refine Rg 2 ?_
 refine Om (.i r1.2.2) ?_
 refine Oi (.b (r1.2.2 != 0)) ?_
 refine Ni ?_
 refine Ws ?_
 rcases bft (r1.2.2 != 0) with hb2 | hb2
 ·replace hM:=ifT hM hb2
  refine Ct hb2 ?_
  refine Sq ?_
  refine Rg 4 ?_
  refine Om (.i r1.2.2) ?_
  refine Oa (.sl .nil 0 []) ?_
  refine Oa (.sl .nil 0 []) ?_
  refine Oa (.i r1.2.2) ?_
  refine Ni ?_
  refine Ws ?_
  refine zaQ ?_
  refine zan ?_
  refine zaU (x:=.tup [.sl .nil 0 [],.sl .nil 0 [],.i r1.2.2]) (f:=fun r=>.tup [.sl .no 1 (r.1.map cI),.sl .no 1 (r.2.1.map cI),.i r.2.2]) (.inr rfl) ?_ (.tupL (.cons (.sl0 .nil 1 0) (.cons (.sl0 .nil 1 0) (.k .nil)))) (Option.some.inj hM) hS
  exact (zfQ (zae (x:=.sl .nil 0 []) rfl) (zae (x:=.sl .nil 0 []) rfl) (zae (x:=.i r1.2.2) rfl))
 ·replace hM:=ifF hM hb2
  refine Cf hb2 ?_
  refine zaz ?_
  refine Ws ?_
  refine Sq ?_
  have hS0:=hS
  refine zcD (n:=11) rfl (by kernel_rfl) ?_
  refine Om (.sl .no 2 (r1.2.1.map Gap_.cells)) ?_
  obtain ⟨x3,hx3,hM⟩:=zaj hM
  refine zaW (xs:=r1.2.1) (f:=Gap_.cells) (z:=0) (u:=x3) (by decide) rfl rfl zfW hx3 ?_
  refine Of ((Gap_.cells x3)) ziH ?_
  refine Olp (.sl .no 1 (x3.purse.map cI)) zaA zaO ?_
  refine Om (.sl .no 2 (r1.2.1.map Gap_.cells)) ?_
  obtain ⟨x4,hx4,hM⟩:=zaj hM
  refine zaW (xs:=r1.2.1) (f:=Gap_.cells) (z:=0) (u:=x4) (by decide) rfl rfl zfW hx4 ?_
  refine Of ((Gap_.cells x4)) zru ?_
  refine Olp (.sl .no 1 (x4.acts.map cI)) zaA zaO ?_
  refine Oa (.sl .no 1 (x3.purse.map cI)) ?_
  refine Oa (.sl .no 1 (x4.acts.map cI)) ?_
  refine Oa (.i 0) ?_
  refine Ni ?_
  refine zff [(2,.sl .no 1 (x3.purse.map cI)),(3,.sl .no 1 (x4.acts.map cI)),(4,.i 0)] (.k (.k (.k .nil))) ?_
  refine zaQ ?_
  refine zaU (x:=.tup [.sl .no 1 (x3.purse.map cI),.sl .no 1 (x4.acts.map cI),.i 0]) (f:=fun r=>.tup [.sl .no 1 (r.1.map cI),.sl .no 1 (r.2.1.map cI),.i r.2.2]) (.inr rfl) ?_ (.refl _) (Option.some.inj hM) hS
  exact (zfQ (zae (x:=.sl .no 1 (x3.purse.map cI)) rfl) (zae (x:=.sl .no 1 (x4.acts.map cI)) rfl) (zae (x:=.i 0) rfl))
theorem zf1 {a0:Box} {a1:Int} {r:Bool} (hM:zdi a0 a1=some r):zaF Try.prog 26 [.agg (Box.cells a0),.i a1] (.b r):=by
 refine zak mixed Try.func26 rfl (by decide) Try.ntmps26 (by simp) ?pure fun H0 g hf=>?_
 case pure=>exact .v _
 rw [zag]
 change wpA _ _ _ _ (Fr.of [(0,.agg (Box.cells a0)),(1,.i a1)]) H0 g
 have hS:=St.start hf
 refine Sq ?_
 refine Rg 2 ?_
 refine zcC (v:=.agg (Box.cells a0)) (cs:=(Box.cells a0)) hS (by decide) rfl rfl (by omega) fun H hS=>?_
 refine Oa (.b false) ?_
 refine Ni ?_
 refine zbk (L':=[]) 0 2 hS rfl rfl rfl fun H hS=>?_
 refine Ws ?_
 refine Sq ?_
 refine Rg 10 ?_
 refine Om (.i a1) ?_
 refine Of ((Box.cells a0)) zfZ ?_
 refine Olp (.i a0.Plays) zaf zav ?_
 refine Of ((Box.cells a0)) zfZ ?_
 refine Olp (.i a0.Plays) zaf zav ?_
 refine Of ((Box.cells a0)) ziG ?_
 refine Olp (.i a0.Skips) zaf zav ?_
 refine Oi (.i (w64 (a0.Plays+a0.Skips))) ?_
 obtain ⟨r1,hr1,hM⟩:=zaj hM
 refine zau (bs:=[.i a1,.i a0.Plays,.i (w64 (a0.Plays+a0.Skips))]) (by decide) rfl rfl ((zed hr1).le (.k (.k (.k .nil)))) ?_
 refine Oa (.b r1) ?_
 refine Ni ?_
 refine zff [(4,.b r1)] (.k .nil) ?_
 refine zaQ ?_
 refine zaU (x:=.b r1) (f:=fun r=>.b r) (.inr rfl) ?_ (.refl _) (Option.some.inj hM) hS
 exact (zas (zae (x:=.b r1) rfl))
theorem zoa {n:Nat} {a0:Wheel} {a1:List Int} {r:(List Int)} (hM:zgy n a0 a1=some r):zaF Try.prog 28 [.agg (Wheel.cells a0),.sl .no 1 (a1.map cI)] (.sl .no 1 (r.map cI)):=by
 refine zak mixed Try.func28 rfl (by decide) Try.ntmps28 (by simp) ?pure fun H0 g hf=>?_
 case pure=>exact .sl _ _ (zaE (fun x=>(zac (.v _) zaK)))
 rw [zag]
 change wpA _ _ _ _ (Fr.of [(0,.agg (Wheel.cells a0)),(1,.sl .no 1 (a1.map cI))]) H0 g
 have hS:=St.start hf
 refine Sq ?_
 refine Rg 2 ?_
 refine zcC (v:=.agg (Wheel.cells a0)) (cs:=(Wheel.cells a0)) hS (by decide) rfl rfl (by omega) fun H hS=>?_
 refine Oa (.sl .nil 0 []) ?_
 refine Ni ?_
 refine zbk (L':=[]) 0 2 hS rfl rfl rfl fun H hS=>?_
 refine Ws ?_
 refine Sq ?_
 refine Rg 1 ?_
 refine Oa (.sl .nil 0 []) ?_
 refine Ni ?_
 refine ztJ [(1,.sl .no 1 (a1.map cI)),(2,.ep (Wheel.cells a0)),(5,.sl (.id (g+2+1)) 1 (([]:List Int).map cI))] 5 1 3 hS (by omega) (by decide) rfl (.k (.k (.k .nil))) fun H hS=>?_
 refine zaS (J:=(List Int)) (fun j=>[(5,.sl (.id (g+2+1)) 1 (j.map cI))]) (fun j H' g'=>St (·<g) H0 [(g+2+1,.row 3 j.length)] H' g'/\zey j=some r) ?_ ?_
 ·rintro v1 H g1 ⟨hS,hM⟩
  change wpA _ _ _ _ (Fr.of [(5,.sl (.id (g+2+1)) 1 (v1.map cI))]) _ _
  replace hS:St (·<g) H0 [(g+2+1,.row 3 v1.length)] H g1:=hS
  replace hM:zey v1=some r:=hM
  refine Sq ?_
  refine Rg 2 ?_
  refine Om (.sl (.id (g+2+1)) 1 (v1.map cI)) ?_
  refine Oa (.sl (.id (g+2+1)) 1 (v1.map cI)) ?_
  refine Ni ?_
  refine Ws ?_
  refine zaQ ?_
  refine zaU (x:=.sl (.id (g+2+1)) 1 (v1.map cI)) (f:=fun r=>.sl .no 1 (r.map cI)) (.inr rfl) ?_ (.sl _ _ _) (Option.some.inj hM) hS
  exact (zas (zae (x:=.sl (.id (g+2+1)) 1 (v1.map cI)) rfl))
 ·refine Sq ?_
  refine Rg 1 ?_
  refine Oa (.i 0) ?_
  refine Ni ?_
  refine Ws ?_
  refine zay ?_
  refine zbU (V:=(List Int)×Int) (fun v=>[(1,.sl .no 1 (a1.map cI)),(2,.ep (Wheel.cells a0)),(5,.sl (.id (g+2+1)) 1 (v.1.map cI)),(6,.i v.2)]) (fun v m2 H' g'=>St (·<g) H0 [(g+2+1,.row 3 v.1.length)] H' g'/\zaL n a0 a1 m2 v.1 v.2=some r) (n:=n) (([]:List Int),0) (.k (.k (.k (.k .nil)))) ⟨(hS.keep [true] rfl).up (by omega),hM⟩ ?_
  rintro ⟨v2,v3⟩ m2 H g2 ⟨hS,hM⟩
  obtain _ | m2:=m2
  ·exact nomatch (show none=some _ from hM)
  change wpA _ _ _ _ (Fr.of [(1,.sl .no 1 (a1.map cI)),(2,.ep (Wheel.cells a0)),(5,.sl (.id (g+2+1)) 1 (v2.map cI)),(6,.i v3)]) _ _
  replace hS:St (·<g) H0 [(g+2+1,.row 3 v2.length)] H g2:=hS
  replace hM:zeb n a0 a1 (zaL n a0 a1 m2) v2 v3=some r:=hM
  refine Sq ?_
  refine Sq ?_
  refine Rg 5 ?_
  refine Om (.i v3) ?_
  refine Of ((Wheel.cells a0)) zcs ?_
  refine Olp (.sl .no 1 (a0.Coins.map cI)) zaA zaO ?_
  refine zbu (n:=a0.Coins.length) (by decide) rfl (List.length_map _) zax ?_
  refine Oi (.b (decide (v3<(a0.Coins.length:Int)))) ?_
  refine Ni ?_
  refine Ws ?_
  rcases bft (decide (v3<(a0.Coins.length:Int))) with hb4 | hb4
  ·replace hM:=ifT hM hb4
   refine Ct hb4 ?_
   refine zaz ?_
   refine Ws ?_
   refine zaS (J:=(List Int)) (fun j=>[(1,.sl .no 1 (a1.map cI)),(2,.ep (Wheel.cells a0)),(5,.sl (.id (g+2+1)) 1 (j.map cI)),(6,.i v3)]) (fun j H' g'=>St (·<g) H0 [(g+2+1,.row 3 j.length)] H' g'/\zez (zaL n a0 a1 m2) v3 j=some r) ?_ ?_
   ·rintro v5 H g3 ⟨hS,hM⟩
    change wpA _ _ _ _ (Fr.of [(1,.sl .no 1 (a1.map cI)),(2,.ep (Wheel.cells a0)),(5,.sl (.id (g+2+1)) 1 (v5.map cI)),(6,.i v3)]) _ _
    replace hS:St (·<g) H0 [(g+2+1,.row 3 v5.length)] H g3:=hS
    replace hM:zez (zaL n a0 a1 m2) v3 v5=some r:=hM
    refine Rg 3 ?_
    refine Om (.i v3) ?_
    refine Oi (.i (w64 (v3+1))) ?_
    refine Oa (.i (w64 (v3+1))) ?_
    refine Ni ?_
    exact za6 (v5,w64 (v3+1)) (Nat.lt_succ_self _) (.k (.k (.k (.k .nil)))) ⟨(hS.keep [true] rfl).up (by omega),hM⟩
   ·refine zay ?_
    refine Sq ?_
    refine Rg 1 ?_
    refine Oa (.i 0) ?_
    refine Ni ?_
    refine Ws ?_
    refine zaS (J:=Int) (fun j=>[(1,.sl .no 1 (a1.map cI)),(2,.ep (Wheel.cells a0)),(5,.sl (.id (g+2+1)) 1 (v2.map cI)),(6,.i v3),(7,.i j)]) (fun j H' g'=>St (·<g) H0 [(g+2+1,.row 3 v2.length)] H' g'/\zc7 (zaL n a0 a1 m2) v2 v3 j=some r) ?_ ?_
    ·rintro v6 H g4 ⟨hS,hM⟩
     change wpA _ _ _ _ (Fr.of [(1,.sl .no 1 (a1.map cI)),(2,.ep (Wheel.cells a0)),(5,.sl (.id (g+2+1)) 1 (v2.map cI)),(6,.i v3),(7,.i v6)]) _ _
     replace hS:St (·<g) H0 [(g+2+1,.row 3 v2.length)] H g4:=hS
     replace hM:zc7 (zaL n a0 a1 m2) v2 v3 v6=some r:=hM
     refine Rg 5 ?_
     refine Om (.sl (.id (g+2+1)) 1 (v2.map cI)) ?_
     refine Om (.i v6) ?_
     refine zbD (es:=[[.i v6]]) hS (by decide) zaG zdj rfl zcY rfl (by decide) (by omega) fun H hS=>?_
     obtain ⟨l7,hl7,hM⟩:=zaj hM
     refine zhH (xs:=v2) (ys:=([v6]:List Int)) (zs:=l7) (f:=cI) (L':=[(g4+2,.row 3 1),(g+2+1,.row 3 l7.length)]) 1 hS (by decide) rfl rfl rfl rfl .no zaG zdj zcY hl7 rfl fun H hS=>?_
     refine Oa (.sl (.id (g+2+1)) 1 (l7.map cI)) ?_
     refine Ni ?_
     refine zal ?_
     exact zah l7 (.k (.k (.k (.k .nil)))) ⟨(hS.keep [false,true] rfl).up (by omega),hM⟩
    ·refine Sq ?_
     refine Rg 1 ?_
     refine Oa (.i 0) ?_
     refine Ni ?_
     refine Ws ?_
     refine zay ?_
     refine zbU (V:=Int×Int) (fun v=>[(1,.sl .no 1 (a1.map cI)),(2,.ep (Wheel.cells a0)),(5,.sl (.id (g+2+1)) 1 (v2.map cI)),(6,.i v3),(7,.i v.1),(8,.i v.2)]) (fun v m5 H' g'=>St (·<g) H0 [(g+2+1,.row 3 v2.length)] H' g'/\zbf (zaL n a0 a1 m2) a1 v2 v3 m5 v.1 v.2=some r) (n:=n) (0,0) (.k (.k (.k (.k (.k (.k .nil)))))) ⟨(hS.keep [true] rfl).up (by omega),hM⟩ ?_
     rintro ⟨v8,v9⟩ m5 H g5 ⟨hS,hM⟩
     obtain _ | m5:=m5
     ·exact nomatch (show none=some _ from hM)
     change wpA _ _ _ _ (Fr.of [(1,.sl .no 1 (a1.map cI)),(2,.ep (Wheel.cells a0)),(5,.sl (.id (g+2+1)) 1 (v2.map cI)),(6,.i v3),(7,.i v8),(8,.i v9)]) _ _
     replace hS:St (·<g) H0 [(g+2+1,.row 3 v2.length)] H g5:=hS
     replace hM:zea (zaL n a0 a1 m2) a1 v2 v3 (zbf (zaL n a0 a1 m2) a1 v2 v3 m5) v8 v9=some r:=hM
     refine Sq ?_
     refine Sq ?_
     refine Rg 4 ?_
     refine Om (.i v9) ?_
     refine Om (.sl .no 1 (a1.map cI)) ?_
     refine zbu (n:=a1.length) (by decide) rfl (List.length_map _) zax ?_
     refine Oi (.b (decide (v9<(a1.length:Int)))) ?_
     refine Ni ?_
     refine Ws ?_
     rcases bft (decide (v9<(a1.length:Int))) with hb10 | hb10
     ·replace hM:=ifT hM hb10
      refine Ct hb10 ?_
      refine zaz ?_
      refine Ws ?_
      refine zaS (J:=Int) (fun j=>[(1,.sl .no 1 (a1.map cI)),(2,.ep (Wheel.cells a0)),(5,.sl (.id (g+2+1)) 1 (v2.map cI)),(6,.i v3),(7,.i j),(8,.i v9)]) (fun j H' g'=>St (·<g) H0 [(g+2+1,.row 3 v2.length)] H' g'/\zdQ (zbf (zaL n a0 a1 m2) a1 v2 v3 m5) v9 j=some r) ?_ ?_
      ·rintro v11 H g6 ⟨hS,hM⟩
       change wpA _ _ _ _ (Fr.of [(1,.sl .no 1 (a1.map cI)),(2,.ep (Wheel.cells a0)),(5,.sl (.id (g+2+1)) 1 (v2.map cI)),(6,.i v3),(7,.i v11),(8,.i v9)]) _ _
       replace hS:St (·<g) H0 [(g+2+1,.row 3 v2.length)] H g6:=hS
       replace hM:zdQ (zbf (zaL n a0 a1 m2) a1 v2 v3 m5) v9 v11=some r:=hM
       refine Rg 3 ?_
       refine Om (.i v9) ?_
       refine Oi (.i (w64 (v9+1))) ?_
       refine Oa (.i (w64 (v9+1))) ?_
       refine Ni ?_
       exact za6 (v11,w64 (v9+1)) (Nat.lt_succ_self _) (.k (.k (.k (.k (.k (.k .nil)))))) ⟨(hS.keep [true] rfl).up (by omega),hM⟩
      ·refine zay ?_
       refine Sq ?_
       refine Rg 6 ?_
       refine Om (.sl .no 1 (a1.map cI)) ?_
       refine Om (.i v9) ?_
       obtain ⟨x12,hx12,hM⟩:=zaj hM
       refine zaW (xs:=a1) (f:=cI) (z:=v9) (u:=x12) (by decide) rfl rfl zaG hx12 ?_
       refine Olp (.i x12) zaf zav ?_
       refine Om (.i v3) ?_
       refine Oi (.b (x12==v3)) ?_
       refine Ni ?_
       refine Ws ?_
       rcases bft (x12==v3) with hb13 | hb13
       ·replace hM:=ifT hM hb13
        refine Ct hb13 ?_
        refine Rg 3 ?_
        refine Om (.i v8) ?_
        refine Oi (.i (w64 (v8+1))) ?_
        refine Oa (.i (w64 (v8+1))) ?_
        refine Ni ?_
        refine zal ?_
        exact zah (w64 (v8+1)) (.k (.k (.k (.k (.k (.k .nil)))))) ⟨(hS.keep [true] rfl).up (by omega),hM⟩
       ·replace hM:=ifF hM hb13
        refine Cf hb13 ?_
        refine zaz ?_
        refine zal ?_
        exact zah v8 (.k (.k (.k (.k (.k (.k .nil)))))) ⟨(hS.keep [true] rfl).up (by omega),hM⟩
     ·replace hM:=ifF hM hb10
      refine Cf hb10 ?_
      refine zbM ?_
      refine zat ?_
      refine zap ?_
      refine zaD ?_
      exact zah v8 (.k (.k (.k (.k (.k .nil))))) ⟨(hS.keep [true] rfl).up (by omega),hM⟩
  ·replace hM:=ifF hM hb4
   refine Cf hb4 ?_
   refine zbM ?_
   refine zat ?_
   refine zap ?_
   refine zaD ?_
   exact zah v2 (.k .nil) ⟨(hS.keep [true] rfl).up (by omega),hM⟩
theorem zm4 {n:Nat} {a0:Wheel} {a1:List Int} {r:(List Int)} (hM:zgy n a0 a1=some r):ze5 Try.prog 28 [.agg (Wheel.cells a0),.sl .no 1 (a1.map cI)] 3 1 (r.map cI):=by
 refine zkl mixed Try.func28 rfl (by decide) Try.ntmps28 (by simp) ?pure fun H0 g hf=>?_
 case pure=>exact zaE (fun x=>(zac (.v _) zaK))
 rw [zag]
 change wpA _ _ _ _ (Fr.of [(0,.agg (Wheel.cells a0)),(1,.sl .no 1 (a1.map cI))]) H0 g
 have hS:=St.start hf
 refine Sq ?_
 refine Rg 2 ?_
 refine zcC (v:=.agg (Wheel.cells a0)) (cs:=(Wheel.cells a0)) hS (by decide) rfl rfl (by omega) fun H hS=>?_
 refine Oa (.sl .nil 0 []) ?_
 refine Ni ?_
 refine zbk (L':=[]) 0 2 hS rfl rfl rfl fun H hS=>?_
 refine Ws ?_
 refine Sq ?_
 refine Rg 1 ?_
 refine Oa (.sl .nil 0 []) ?_
 refine Ni ?_
 refine ztJ [(1,.sl .no 1 (a1.map cI)),(2,.ep (Wheel.cells a0)),(5,.sl (.id (g+2+1)) 1 (([]:List Int).map cI))] 5 1 3 hS (by omega) (by decide) rfl (.k (.k (.k .nil))) fun H hS=>?_
 refine zaS (J:=(List Int)) (fun j=>[(5,.sl (.id (g+2+1)) 1 (j.map cI))]) (fun j H' g'=>St (·<g) H0 [(g+2+1,.row 3 j.length)] H' g'/\zey j=some r) ?_ ?_
 ·rintro v1 H g1 ⟨hS,hM⟩
  change wpA _ _ _ _ (Fr.of [(5,.sl (.id (g+2+1)) 1 (v1.map cI))]) _ _
  replace hS:St (·<g) H0 [(g+2+1,.row 3 v1.length)] H g1:=hS
  replace hM:zey v1=some r:=hM
  refine Sq ?_
  refine Rg 2 ?_
  refine Om (.sl (.id (g+2+1)) 1 (v1.map cI)) ?_
  refine Oa (.sl (.id (g+2+1)) 1 (v1.map cI)) ?_
  refine Ni ?_
  refine Ws ?_
  refine zaQ ?_
  obtain rfl:=Option.some.inj hM
  refine zta (j:=g+2+1) 0 (.inr rfl) ?_ hS rfl (List.length_map _).symm
  exact (zas (zae (x:=.sl (.id (g+2+1)) 1 (v1.map cI)) rfl))
 ·refine Sq ?_
  refine Rg 1 ?_
  refine Oa (.i 0) ?_
  refine Ni ?_
  refine Ws ?_
  refine zay ?_
  refine zbU (V:=(List Int)×Int) (fun v=>[(1,.sl .no 1 (a1.map cI)),(2,.ep (Wheel.cells a0)),(5,.sl (.id (g+2+1)) 1 (v.1.map cI)),(6,.i v.2)]) (fun v m2 H' g'=>St (·<g) H0 [(g+2+1,.row 3 v.1.length)] H' g'/\zaL n a0 a1 m2 v.1 v.2=some r) (n:=n) (([]:List Int),0) (.k (.k (.k (.k .nil)))) ⟨(hS.keep [true] rfl).up (by omega),hM⟩ ?_
  rintro ⟨v2,v3⟩ m2 H g2 ⟨hS,hM⟩
  obtain _ | m2:=m2
  ·exact nomatch (show none=some _ from hM)
  change wpA _ _ _ _ (Fr.of [(1,.sl .no 1 (a1.map cI)),(2,.ep (Wheel.cells a0)),(5,.sl (.id (g+2+1)) 1 (v2.map cI)),(6,.i v3)]) _ _
  replace hS:St (·<g) H0 [(g+2+1,.row 3 v2.length)] H g2:=hS
  replace hM:zeb n a0 a1 (zaL n a0 a1 m2) v2 v3=some r:=hM
  refine Sq ?_
  refine Sq ?_
  refine Rg 5 ?_
  refine Om (.i v3) ?_
  refine Of ((Wheel.cells a0)) zcs ?_
  refine Olp (.sl .no 1 (a0.Coins.map cI)) zaA zaO ?_
  refine zbu (n:=a0.Coins.length) (by decide) rfl (List.length_map _) zax ?_
  refine Oi (.b (decide (v3<(a0.Coins.length:Int)))) ?_
  refine Ni ?_
  refine Ws ?_
  rcases bft (decide (v3<(a0.Coins.length:Int))) with hb4 | hb4
  ·replace hM:=ifT hM hb4
   refine Ct hb4 ?_
   refine zaz ?_
   refine Ws ?_
   refine zaS (J:=(List Int)) (fun j=>[(1,.sl .no 1 (a1.map cI)),(2,.ep (Wheel.cells a0)),(5,.sl (.id (g+2+1)) 1 (j.map cI)),(6,.i v3)]) (fun j H' g'=>St (·<g) H0 [(g+2+1,.row 3 j.length)] H' g'/\zez (zaL n a0 a1 m2) v3 j=some r) ?_ ?_
   ·rintro v5 H g3 ⟨hS,hM⟩
    change wpA _ _ _ _ (Fr.of [(1,.sl .no 1 (a1.map cI)),(2,.ep (Wheel.cells a0)),(5,.sl (.id (g+2+1)) 1 (v5.map cI)),(6,.i v3)]) _ _
    replace hS:St (·<g) H0 [(g+2+1,.row 3 v5.length)] H g3:=hS
    replace hM:zez (zaL n a0 a1 m2) v3 v5=some r:=hM
    refine Rg 3 ?_
    refine Om (.i v3) ?_
    refine Oi (.i (w64 (v3+1))) ?_
    refine Oa (.i (w64 (v3+1))) ?_
    refine Ni ?_
    exact za6 (v5,w64 (v3+1)) (Nat.lt_succ_self _) (.k (.k (.k (.k .nil)))) ⟨(hS.keep [true] rfl).up (by omega),hM⟩
   ·refine zay ?_
    refine Sq ?_
    refine Rg 1 ?_
    refine Oa (.i 0) ?_
    refine Ni ?_
    refine Ws ?_
    refine zaS (J:=Int) (fun j=>[(1,.sl .no 1 (a1.map cI)),(2,.ep (Wheel.cells a0)),(5,.sl (.id (g+2+1)) 1 (v2.map cI)),(6,.i v3),(7,.i j)]) (fun j H' g'=>St (·<g) H0 [(g+2+1,.row 3 v2.length)] H' g'/\zc7 (zaL n a0 a1 m2) v2 v3 j=some r) ?_ ?_
    ·rintro v6 H g4 ⟨hS,hM⟩
     change wpA _ _ _ _ (Fr.of [(1,.sl .no 1 (a1.map cI)),(2,.ep (Wheel.cells a0)),(5,.sl (.id (g+2+1)) 1 (v2.map cI)),(6,.i v3),(7,.i v6)]) _ _
     replace hS:St (·<g) H0 [(g+2+1,.row 3 v2.length)] H g4:=hS
     replace hM:zc7 (zaL n a0 a1 m2) v2 v3 v6=some r:=hM
     refine Rg 5 ?_
     refine Om (.sl (.id (g+2+1)) 1 (v2.map cI)) ?_
     refine Om (.i v6) ?_
     refine zbD (es:=[[.i v6]]) hS (by decide) zaG zdj rfl zcY rfl (by decide) (by omega) fun H hS=>?_
     obtain ⟨l7,hl7,hM⟩:=zaj hM
     refine zhH (xs:=v2) (ys:=([v6]:List Int)) (zs:=l7) (f:=cI) (L':=[(g4+2,.row 3 1),(g+2+1,.row 3 l7.length)]) 1 hS (by decide) rfl rfl rfl rfl .no zaG zdj zcY hl7 rfl fun H hS=>?_
     refine Oa (.sl (.id (g+2+1)) 1 (l7.map cI)) ?_
     refine Ni ?_
     refine zal ?_
     exact zah l7 (.k (.k (.k (.k .nil)))) ⟨(hS.keep [false,true] rfl).up (by omega),hM⟩
    ·refine Sq ?_
     refine Rg 1 ?_
     refine Oa (.i 0) ?_
     refine Ni ?_
     refine Ws ?_
     refine zay ?_
     refine zbU (V:=Int×Int) (fun v=>[(1,.sl .no 1 (a1.map cI)),(2,.ep (Wheel.cells a0)),(5,.sl (.id (g+2+1)) 1 (v2.map cI)),(6,.i v3),(7,.i v.1),(8,.i v.2)]) (fun v m5 H' g'=>St (·<g) H0 [(g+2+1,.row 3 v2.length)] H' g'/\zbf (zaL n a0 a1 m2) a1 v2 v3 m5 v.1 v.2=some r) (n:=n) (0,0) (.k (.k (.k (.k (.k (.k .nil)))))) ⟨(hS.keep [true] rfl).up (by omega),hM⟩ ?_
     rintro ⟨v8,v9⟩ m5 H g5 ⟨hS,hM⟩
     obtain _ | m5:=m5
     ·exact nomatch (show none=some _ from hM)
     change wpA _ _ _ _ (Fr.of [(1,.sl .no 1 (a1.map cI)),(2,.ep (Wheel.cells a0)),(5,.sl (.id (g+2+1)) 1 (v2.map cI)),(6,.i v3),(7,.i v8),(8,.i v9)]) _ _
     replace hS:St (·<g) H0 [(g+2+1,.row 3 v2.length)] H g5:=hS
     replace hM:zea (zaL n a0 a1 m2) a1 v2 v3 (zbf (zaL n a0 a1 m2) a1 v2 v3 m5) v8 v9=some r:=hM
     refine Sq ?_
     refine Sq ?_
     refine Rg 4 ?_
     refine Om (.i v9) ?_
     refine Om (.sl .no 1 (a1.map cI)) ?_
     refine zbu (n:=a1.length) (by decide) rfl (List.length_map _) zax ?_
     refine Oi (.b (decide (v9<(a1.length:Int)))) ?_
     refine Ni ?_
     refine Ws ?_
     rcases bft (decide (v9<(a1.length:Int))) with hb10 | hb10
     ·replace hM:=ifT hM hb10
      refine Ct hb10 ?_
      refine zaz ?_
      refine Ws ?_
      refine zaS (J:=Int) (fun j=>[(1,.sl .no 1 (a1.map cI)),(2,.ep (Wheel.cells a0)),(5,.sl (.id (g+2+1)) 1 (v2.map cI)),(6,.i v3),(7,.i j),(8,.i v9)]) (fun j H' g'=>St (·<g) H0 [(g+2+1,.row 3 v2.length)] H' g'/\zdQ (zbf (zaL n a0 a1 m2) a1 v2 v3 m5) v9 j=some r) ?_ ?_
      ·rintro v11 H g6 ⟨hS,hM⟩
       change wpA _ _ _ _ (Fr.of [(1,.sl .no 1 (a1.map cI)),(2,.ep (Wheel.cells a0)),(5,.sl (.id (g+2+1)) 1 (v2.map cI)),(6,.i v3),(7,.i v11),(8,.i v9)]) _ _
       replace hS:St (·<g) H0 [(g+2+1,.row 3 v2.length)] H g6:=hS
       replace hM:zdQ (zbf (zaL n a0 a1 m2) a1 v2 v3 m5) v9 v11=some r:=hM
       refine Rg 3 ?_
       refine Om (.i v9) ?_
       refine Oi (.i (w64 (v9+1))) ?_
       refine Oa (.i (w64 (v9+1))) ?_
       refine Ni ?_
       exact za6 (v11,w64 (v9+1)) (Nat.lt_succ_self _) (.k (.k (.k (.k (.k (.k .nil)))))) ⟨(hS.keep [true] rfl).up (by omega),hM⟩
      ·refine zay ?_
       refine Sq ?_
       refine Rg 6 ?_
       refine Om (.sl .no 1 (a1.map cI)) ?_
       refine Om (.i v9) ?_
       obtain ⟨x12,hx12,hM⟩:=zaj hM
       refine zaW (xs:=a1) (f:=cI) (z:=v9) (u:=x12) (by decide) rfl rfl zaG hx12 ?_
       refine Olp (.i x12) zaf zav ?_
       refine Om (.i v3) ?_
       refine Oi (.b (x12==v3)) ?_
       refine Ni ?_
       refine Ws ?_
       rcases bft (x12==v3) with hb13 | hb13
       ·replace hM:=ifT hM hb13
        refine Ct hb13 ?_
        refine Rg 3 ?_
        refine Om (.i v8) ?_
        refine Oi (.i (w64 (v8+1))) ?_
        refine Oa (.i (w64 (v8+1))) ?_
        refine Ni ?_
        refine zal ?_
        exact zah (w64 (v8+1)) (.k (.k (.k (.k (.k (.k .nil)))))) ⟨(hS.keep [true] rfl).up (by omega),hM⟩
       ·replace hM:=ifF hM hb13
        refine Cf hb13 ?_
        refine zaz ?_
        refine zal ?_
        exact zah v8 (.k (.k (.k (.k (.k (.k .nil)))))) ⟨(hS.keep [true] rfl).up (by omega),hM⟩
     ·replace hM:=ifF hM hb10
      refine Cf hb10 ?_
      refine zbM ?_
      refine zat ?_
      refine zap ?_
      refine zaD ?_
      exact zah v8 (.k (.k (.k (.k (.k .nil))))) ⟨(hS.keep [true] rfl).up (by omega),hM⟩
  ·replace hM:=ifF hM hb4
   refine Cf hb4 ?_
   refine zbM ?_
   refine zat ?_
   refine zap ?_
   refine zaD ?_
   exact zah v2 (.k .nil) ⟨(hS.keep [true] rfl).up (by omega),hM⟩
theorem zgJ {n:Nat} {a0:Box} {a1:List Int} {r:Bool} (hM:zby n a0 a1=some r):zaF Try.prog 30 [.agg (Box.cells a0),.sl .no 1 (a1.map cI)] (.b r):=by
 refine zak mixed Try.func30 rfl (by decide) Try.ntmps30 (by simp) ?pure fun H0 g hf=>?_
 case pure=>exact .v _
 rw [zag]
 change wpA _ _ _ _ (Fr.of [(0,.agg (Box.cells a0)),(1,.sl .no 1 (a1.map cI))]) H0 g
 have hS:=St.start hf
 refine Sq ?_
 refine Rg 2 ?_
 refine zcC (v:=.agg (Box.cells a0)) (cs:=(Box.cells a0)) hS (by decide) rfl rfl (by omega) fun H hS=>?_
 refine Oa (.b false) ?_
 refine Ni ?_
 refine zbk (L':=[]) 0 2 hS rfl rfl rfl fun H hS=>?_
 refine Ws ?_
 refine Sq ?_
 refine Sq ?_
 refine Rg 6 ?_
 refine Om (.sl .no 1 (a1.map cI)) ?_
 refine zbu (n:=a1.length) (by decide) rfl (List.length_map _) zax ?_
 refine Of ((Box.cells a0)) zcN ?_
 refine Olp (.sl .no 1 (a0.Found.map cI)) zaA zaO ?_
 refine zbu (n:=a0.Found.length) (by decide) rfl (List.length_map _) zax ?_
 refine Oi (.b ((a1.length:Int) != (a0.Found.length:Int))) ?_
 refine Ni ?_
 refine Ws ?_
 rcases bft ((a1.length:Int) != (a0.Found.length:Int)) with hb1 | hb1
 ·replace hM:=ifT hM hb1
  refine Ct hb1 ?_
  refine Sq ?_
  refine Rg 1 ?_
  refine Oa (.b false) ?_
  refine Ni ?_
  refine Ws ?_
  refine zaQ ?_
  refine zan ?_
  refine zaU (x:=.b false) (f:=fun r=>.b r) (.inr rfl) ?_ (.refl _) (Option.some.inj hM) hS
  exact (zas (zae (x:=.b false) rfl))
 ·replace hM:=ifF hM hb1
  refine Cf hb1 ?_
  refine zaz ?_
  refine Ws ?_
  refine zaS (J:=Unit) (fun j=>[(1,.sl .no 1 (a1.map cI))]) (fun j H' g'=>St (·<g) H0 [] H' g'/\zcM n a1=some r) ?_ ?_
  ·rintro _ H g1 ⟨hS,hM⟩
   change wpA _ _ _ _ (Fr.of [(1,.sl .no 1 (a1.map cI))]) _ _
   replace hS:St (·<g) H0 [] H g1:=hS
   replace hM:zcM n a1=some r:=hM
   refine Sq ?_
   refine Rg 4 ?_
   refine Om (.sl .no 1 (a1.map cI)) ?_
   obtain ⟨r2,hr2,hM⟩:=zaj hM
   refine zau (bs:=[.sl .no 1 (a1.map cI)]) (by decide) rfl rfl ((zg1 hr2).le (.k .nil)) ?_
   refine Oi (.b (decide (r2<=2))) ?_
   refine Oa (.b (decide (r2<=2))) ?_
   refine Ni ?_
   refine Ws ?_
   refine zaQ ?_
   refine zaU (x:=.b (decide (r2<=2))) (f:=fun r=>.b r) (.inr rfl) ?_ (.refl _) (Option.some.inj hM) hS
   exact (zas (zae (x:=.b (decide (r2<=2))) rfl))
  ·refine Sq ?_
   refine Rg 1 ?_
   refine Oa (.i 0) ?_
   refine Ni ?_
   refine Ws ?_
   refine zay ?_
   refine zbU (V:=Int) (fun v=>[(1,.sl .no 1 (a1.map cI)),(5,.i v)]) (fun v m2 H' g'=>St (·<g) H0 [] H' g'/\zaV n a1 m2 v=some r) (n:=n) 0 (.k (.k .nil)) ⟨(hS.keep [] rfl).up (by omega),hM⟩ ?_
   rintro v3 m2 H g2 ⟨hS,hM⟩
   obtain _ | m2:=m2
   ·exact nomatch (show none=some _ from hM)
   change wpA _ _ _ _ (Fr.of [(1,.sl .no 1 (a1.map cI)),(5,.i v3)]) _ _
   replace hS:St (·<g) H0 [] H g2:=hS
   replace hM:zbs n a1 (zaV n a1 m2) v3=some r:=hM
   refine Sq ?_
   refine Sq ?_
   refine Rg 4 ?_
   refine Om (.i v3) ?_
   refine Om (.sl .no 1 (a1.map cI)) ?_
   refine zbu (n:=a1.length) (by decide) rfl (List.length_map _) zax ?_
   refine Oi (.b (decide (v3<(a1.length:Int)))) ?_
   refine Ni ?_
   refine Ws ?_
   rcases bft (decide (v3<(a1.length:Int))) with hb4 | hb4
   ·replace hM:=ifT hM hb4
    refine Ct hb4 ?_
    refine zaz ?_
    refine Ws ?_
    refine Sq ?_
    refine zay ?_
    refine Sq ?_
    refine Rg 6 ?_
    refine Om (.sl .no 1 (a1.map cI)) ?_
    refine Om (.i v3) ?_
    obtain ⟨x5,hx5,hM⟩:=zaj hM
    refine zaW (xs:=a1) (f:=cI) (z:=v3) (u:=x5) (by decide) rfl rfl zaG hx5 ?_
    refine Olp (.i x5) zaf zav ?_
    obtain ⟨r6,hr6,hM⟩:=zaj hM
    refine zau (bs:=[.i x5,.i 0,.i 2]) (by decide) rfl rfl ((zed hr6).le (.k (.k (.k .nil)))) ?_
    refine zdD (e:=r6) (by decide) rfl ?_
    refine Ni ?_
    refine Ws ?_
    rcases bft (!r6) with hb7 | hb7
    ·replace hM:=ifT hM hb7
     refine Ct hb7 ?_
     refine Sq ?_
     refine Rg 1 ?_
     refine Oa (.b false) ?_
     refine Ni ?_
     refine Ws ?_
     refine zaQ ?_
     refine za1 ?_
     refine zan ?_
     refine zcj ?_
     refine za1 ?_
     refine zcF ?_
     refine zaU (x:=.b false) (f:=fun r=>.b r) (.inr rfl) ?_ (.refl _) (Option.some.inj hM) hS
     exact (zas (zae (x:=.b false) rfl))
    ·replace hM:=ifF hM hb7
     refine Cf hb7 ?_
     refine zaz ?_
     refine zal ?_
     refine Ws ?_
     refine Rg 3 ?_
     refine Om (.i v3) ?_
     refine Oi (.i (w64 (v3+1))) ?_
     refine Oa (.i (w64 (v3+1))) ?_
     refine Ni ?_
     exact za6 (w64 (v3+1)) (Nat.lt_succ_self _) (.k (.k .nil)) ⟨(hS.keep [] rfl).up (by omega),hM⟩
   ·replace hM:=ifF hM hb4
    refine Cf hb4 ?_
    refine zbM ?_
    refine zat ?_
    refine zap ?_
    refine zaD ?_
    exact zah () (.k .nil) ⟨(hS.keep [] rfl).up (by omega),hM⟩
theorem zp8 {n:Nat} {a0:List Int} {a1:Int} {r:Bool} (hM:zlZ n a0 a1=some r):zaF Try.prog 47 [.sl .no 1 (a0.map cI),.i a1] (.b r):=by
 refine zak mixed Try.func47 rfl (by decide) Try.ntmps47 (by simp) ?pure fun H0 g hf=>?_
 case pure=>exact .v _
 rw [zag]
 change wpA _ _ _ _ (Fr.of [(0,.sl .no 1 (a0.map cI)),(1,.i a1)]) H0 g
 have hS:=St.start hf
 refine Sq ?_
 refine Rg 1 ?_
 refine Oa (.b false) ?_
 refine Ni ?_
 refine Ws ?_
 refine zaS (J:=Unit) (fun j=>[]) (fun j H' g'=>St (·<g) H0 [] H' g'/\zgV=some r) ?_ ?_
 ·rintro _ H g1 ⟨hS,hM⟩
  change wpA _ _ _ _ (Fr.of []) _ _
  replace hS:St (·<g) H0 [] H g1:=hS
  replace hM:zgV=some r:=hM
  refine Sq ?_
  refine Rg 1 ?_
  refine Oa (.b false) ?_
  refine Ni ?_
  refine Ws ?_
  refine zaQ ?_
  refine zaU (x:=.b false) (f:=fun r=>.b r) (.inr rfl) ?_ (.refl _) (Option.some.inj hM) hS
  exact (zas (zae (x:=.b false) rfl))
 ·refine Sq ?_
  refine Rg 1 ?_
  refine Oa (.i 0) ?_
  refine Ni ?_
  refine Ws ?_
  refine zay ?_
  refine zbU (V:=Int) (fun v=>[(0,.sl .no 1 (a0.map cI)),(1,.i a1),(5,.i v)]) (fun v m2 H' g'=>St (·<g) H0 [] H' g'/\zer a0 a1 m2 v=some r) (n:=n) 0 (.k (.k (.k .nil))) ⟨(hS.keep [] rfl).up (by omega),hM⟩ ?_
  rintro v1 m2 H g2 ⟨hS,hM⟩
  obtain _ | m2:=m2
  ·exact nomatch (show none=some _ from hM)
  change wpA _ _ _ _ (Fr.of [(0,.sl .no 1 (a0.map cI)),(1,.i a1),(5,.i v1)]) _ _
  replace hS:St (·<g) H0 [] H g2:=hS
  replace hM:zfC a0 a1 (zer a0 a1 m2) v1=some r:=hM
  refine Sq ?_
  refine Sq ?_
  refine Rg 4 ?_
  refine Om (.i v1) ?_
  refine Om (.sl .no 1 (a0.map cI)) ?_
  refine zbu (n:=a0.length) (by decide) rfl (List.length_map _) zax ?_
  refine Oi (.b (decide (v1<(a0.length:Int)))) ?_
  refine Ni ?_
  refine Ws ?_
  rcases bft (decide (v1<(a0.length:Int))) with hb2 | hb2
  ·replace hM:=ifT hM hb2
   refine Ct hb2 ?_
   refine zaz ?_
   refine Ws ?_
   refine Sq ?_
   refine zay ?_
   refine Sq ?_
   refine Rg 6 ?_
   refine Om (.sl .no 1 (a0.map cI)) ?_
   refine Om (.i v1) ?_
   obtain ⟨x3,hx3,hM⟩:=zaj hM
   refine zaW (xs:=a0) (f:=cI) (z:=v1) (u:=x3) (by decide) rfl rfl zaG hx3 ?_
   refine Olp (.i x3) zaf zav ?_
   refine Om (.i a1) ?_
   refine Oi (.b (x3==a1)) ?_
   refine Ni ?_
   refine Ws ?_
   rcases bft (x3==a1) with hb4 | hb4
   ·replace hM:=ifT hM hb4
    refine Ct hb4 ?_
    refine Sq ?_
    refine Rg 1 ?_
    refine Oa (.b true) ?_
    refine Ni ?_
    refine Ws ?_
    refine zaQ ?_
    refine za1 ?_
    refine zan ?_
    refine zcj ?_
    refine za1 ?_
    refine zcF ?_
    refine zaU (x:=.b true) (f:=fun r=>.b r) (.inr rfl) ?_ (.refl _) (Option.some.inj hM) hS
    exact (zas (zae (x:=.b true) rfl))
   ·replace hM:=ifF hM hb4
    refine Cf hb4 ?_
    refine zaz ?_
    refine zal ?_
    refine Ws ?_
    refine Rg 3 ?_
    refine Om (.i v1) ?_
    refine Oi (.i (w64 (v1+1))) ?_
    refine Oa (.i (w64 (v1+1))) ?_
    refine Ni ?_
    exact za6 (w64 (v1+1)) (Nat.lt_succ_self _) (.k (.k (.k .nil))) ⟨(hS.keep [] rfl).up (by omega),hM⟩
  ·replace hM:=ifF hM hb2
   refine Cf hb2 ?_
   refine zbM ?_
   refine zat ?_
   refine zap ?_
   refine zaD ?_
   exact zah () .nil ⟨(hS.keep [] rfl).up (by omega),hM⟩
theorem zob {n:Nat} {a0:Wheel} {a1:Int} {a2:Int} {r:Int×Int} (hM:ziv n a0 a1 a2=some r):zaF Try.prog 102 [.agg (Wheel.cells a0),.i a1,.i a2] (.tup [.i r.1,.i r.2]):=by
 refine zak mixed Try.func102 rfl (by decide) Try.ntmps102 (by simp) ?pure fun H0 g hf=>?_
 case pure=>exact .tup _ (zac (.v _) (zac (.v _) zaK))
 rw [zag]
 change wpA _ _ _ _ (Fr.of [(0,.agg (Wheel.cells a0)),(1,.i a1),(2,.i a2)]) H0 g
 have hS:=St.start hf
 refine Sq ?_
 refine Rg 3 ?_
 refine zcC (v:=.agg (Wheel.cells a0)) (cs:=(Wheel.cells a0)) hS (by decide) rfl rfl (by omega) fun H hS=>?_
 refine Oa (.i 0) ?_
 refine Oa (.i 0) ?_
 refine Ni ?_
 refine zbk (L':=[]) 0 3 hS rfl rfl rfl fun H hS=>?_
 refine Ws ?_
 refine zaS (J:=Int×Int) (fun j=>[(1,.i j.1),(7,.i j.2)]) (fun j H' g'=>St (·<g) H0 [] H' g'/\zgd j.1 j.2=some r) ?_ ?_
 ·rintro ⟨v1,v2⟩ H g1 ⟨hS,hM⟩
  change wpA _ _ _ _ (Fr.of [(1,.i v1),(7,.i v2)]) _ _
  replace hS:St (·<g) H0 [] H g1:=hS
  replace hM:zgd v1 v2=some r:=hM
  refine Sq ?_
  refine Rg 4 ?_
  refine Om (.i v1) ?_
  refine Om (.i v2) ?_
  refine Oa (.i v1) ?_
  refine Oa (.i v2) ?_
  refine Ni ?_
  refine Ws ?_
  refine zaQ ?_
  refine zaU (x:=.tup [.i v1,.i v2]) (f:=fun r=>.tup [.i r.1,.i r.2]) (.inr rfl) ?_ (.refl _) (Option.some.inj hM) hS
  exact (zc8 (zae (x:=.i v1) rfl) (zae (x:=.i v2) rfl))
 ·refine Sq ?_
  refine Rg 1 ?_
  refine Oa (.i 0) ?_
  refine Ni ?_
  refine Ws ?_
  refine zay ?_
  refine zbU (V:=Int×Int×Int) (fun v=>[(1,.i v.1),(2,.i a2),(3,.ep (Wheel.cells a0)),(7,.i v.2.1),(8,.i v.2.2)]) (fun v m2 H' g'=>St (·<g) H0 [] H' g'/\zcd n a0 a2 m2 v.1 v.2.1 v.2.2=some r) (n:=n) (a1,0,0) (.k (.k (.k (.k (.k .nil))))) ⟨(hS.keep [] rfl).up (by omega),hM⟩ ?_
  rintro ⟨v3,v4,v5⟩ m2 H g2 ⟨hS,hM⟩
  obtain _ | m2:=m2
  ·exact nomatch (show none=some _ from hM)
  change wpA _ _ _ _ (Fr.of [(1,.i v3),(2,.i a2),(3,.ep (Wheel.cells a0)),(7,.i v4),(8,.i v5)]) _ _
  replace hS:St (·<g) H0 [] H g2:=hS
  replace hM:zfa n a0 a2 (zcd n a0 a2 m2) v3 v4 v5=some r:=hM
  refine Sq ?_
  refine Sq ?_
  refine Rg 3 ?_
  refine Om (.i v5) ?_
  refine Om (.i a2) ?_
  refine Oi (.b (decide (v5<a2))) ?_
  refine Ni ?_
  refine Ws ?_
  rcases bft (decide (v5<a2)) with hb6 | hb6
  ·replace hM:=ifT hM hb6
   refine Ct hb6 ?_
   refine zaz ?_
   refine Ws ?_
   refine zaS (J:=Int×Int) (fun j=>[(1,.i j.1),(2,.i a2),(3,.ep (Wheel.cells a0)),(7,.i j.2),(8,.i v5)]) (fun j H' g'=>St (·<g) H0 [] H' g'/\zfi (zcd n a0 a2 m2) v5 j.1 j.2=some r) ?_ ?_
   ·rintro ⟨v7,v8⟩ H g3 ⟨hS,hM⟩
    change wpA _ _ _ _ (Fr.of [(1,.i v7),(2,.i a2),(3,.ep (Wheel.cells a0)),(7,.i v8),(8,.i v5)]) _ _
    replace hS:St (·<g) H0 [] H g3:=hS
    replace hM:zfi (zcd n a0 a2 m2) v5 v7 v8=some r:=hM
    refine Rg 3 ?_
    refine Om (.i v5) ?_
    refine Oi (.i (w64 (v5+1))) ?_
    refine Oa (.i (w64 (v5+1))) ?_
    refine Ni ?_
    exact za6 (v7,v8,w64 (v5+1)) (Nat.lt_succ_self _) (.k (.k (.k (.k (.k .nil))))) ⟨(hS.keep [] rfl).up (by omega),hM⟩
   ·refine zay ?_
    refine Sq ?_
    refine Rg 3 ?_
    refine Om (.i v3) ?_
    refine Oi (.i (w64 (v3+1))) ?_
    refine Oa (.i (w64 (v3+1))) ?_
    refine Ni ?_
    refine Ws ?_
    refine zaS (J:=Int) (fun j=>[(1,.i (w64 (v3+1))),(2,.i a2),(3,.ep (Wheel.cells a0)),(7,.i j),(8,.i v5)]) (fun j H' g'=>St (·<g) H0 [] H' g'/\zfj (zcd n a0 a2 m2) a0 v3 v5 j=some r) ?_ ?_
    ·rintro v9 H g4 ⟨hS,hM⟩
     change wpA _ _ _ _ (Fr.of [(1,.i (w64 (v3+1))),(2,.i a2),(3,.ep (Wheel.cells a0)),(7,.i v9),(8,.i v5)]) _ _
     replace hS:St (·<g) H0 [] H g4:=hS
     replace hM:zfj (zcd n a0 a2 m2) a0 v3 v5 v9=some r:=hM
     refine Sq ?_
     refine Rg 4 ?_
     refine Om (.i (w64 (v3+1))) ?_
     refine Of ((Wheel.cells a0)) zdS ?_
     refine Olp (.i a0.Round) zaf zav ?_
     refine Oi (.b ((w64 (v3+1))==a0.Round)) ?_
     refine Ni ?_
     refine Ws ?_
     rcases bft ((w64 (v3+1))==a0.Round) with hb10 | hb10
     ·replace hM:=ifT hM hb10
      refine Ct hb10 ?_
      refine Rg 1 ?_
      refine Oa (.i 0) ?_
      refine Ni ?_
      refine zal ?_
      exact zah (0,v9) (.k (.k (.k (.k (.k .nil))))) ⟨(hS.keep [] rfl).up (by omega),hM⟩
     ·replace hM:=ifF hM hb10
      refine Cf hb10 ?_
      refine zaz ?_
      refine zal ?_
      exact zah (w64 (v3+1),v9) (.k (.k (.k (.k (.k .nil))))) ⟨(hS.keep [] rfl).up (by omega),hM⟩
    ·refine Sq ?_
     refine Rg 4 ?_
     refine Of ((Wheel.cells a0)) zgC ?_
     refine Olp (.sl .no 1 (a0.Notches.map cI)) zaA zaO ?_
     refine Om (.i (w64 (v3+1))) ?_
     obtain ⟨r11,hr11,hM⟩:=zaj hM
     refine zau (bs:=[.sl .no 1 (a0.Notches.map cI),.i (w64 (v3+1))]) (by decide) rfl rfl ((zp8 hr11).le (.k (.k .nil))) ?_
     refine Ni ?_
     refine Ws ?_
     rcases bft r11 with hb12 | hb12
     ·replace hM:=ifT hM hb12
      refine Ct hb12 ?_
      refine Rg 3 ?_
      refine Om (.i v4) ?_
      refine Oi (.i (w64 (v4+1))) ?_
      refine Oa (.i (w64 (v4+1))) ?_
      refine Ni ?_
      exact zah (w64 (v4+1)) (.k (.k (.k (.k (.k .nil))))) ⟨(hS.keep [] rfl).up (by omega),hM⟩
     ·replace hM:=ifF hM hb12
      refine Cf hb12 ?_
      refine zaz ?_
      exact zah v4 (.k (.k (.k (.k (.k .nil))))) ⟨(hS.keep [] rfl).up (by omega),hM⟩
  ·replace hM:=ifF hM hb6
   refine Cf hb6 ?_
   refine zbM ?_
   refine zat ?_
   refine zap ?_
   refine zaD ?_
   exact zah (v3,v4) (.k (.k .nil)) ⟨(hS.keep [] rfl).up (by omega),hM⟩
theorem zoc {n:Nat} {a0:Wheel} {a1:Stand} {a2:Int} {r:Stand×Bool} (hM:ziw n a0 a1 a2=some r):zaF Try.prog 67 [.agg (Wheel.cells a0),.agg (Stand.cells a1),.i a2] (.tup [.agg [.i r.1.Place,.i r.1.Credit],.b r.2]):=by
 refine zak mixed Try.func67 rfl (by decide) Try.ntmps67 (by simp) ?pure fun H0 g hf=>?_
 case pure=>exact .tup _ (zac (.agg _ (zac (.v _) (zac (.v _) zaK))) (zac (.v _) zaK))
 rw [zag]
 change wpA _ _ _ _ (Fr.of [(0,.agg (Wheel.cells a0)),(1,.agg (Stand.cells a1)),(2,.i a2)]) H0 g
 have hS:=St.start hf
 refine Sq ?_
 refine Rg 4 ?_
 refine zcC (v:=.agg (Wheel.cells a0)) (cs:=(Wheel.cells a0)) hS (by decide) rfl rfl (by omega) fun H hS=>?_
 refine zcC (v:=.agg (Stand.cells a1)) (cs:=(Stand.cells a1)) hS (by decide) rfl rfl (by omega) fun H hS=>?_
 refine zck hS (by decide) zcr (by omega) fun H hS=>?_
 refine Oa (.b false) ?_
 refine Ni ?_
 refine zbk (L':=[(g+2,.cells [.i 0,.i 0]),(g+1,.cells (Stand.cells a1))]) 2 3 hS rfl rfl rfl fun H hS=>?_
 refine zbk (L':=[(g+2,.cells [.i 0,.i 0])]) 1 4 hS rfl rfl rfl fun H hS=>?_
 refine Ws ?_
 refine Sq ?_
 refine Sq ?_
 refine Rg 2 ?_
 refine Om (.i a2) ?_
 refine Oi (.b (decide (a2≥0))) ?_
 refine Ni ?_
 refine Ws ?_
 rcases bft (decide (a2≥0)) with hb1 | hb1
 ·replace hM:=ifT hM hb1
  refine Ct hb1 ?_
  refine Sq ?_
  have hS0:=hS
  refine zcD (n:=14) rfl (by kernel_rfl) ?_
  refine Olg (.agg (Wheel.cells a0)) zb0 ?_
  refine Of ((Stand.cells a1)) zdp ?_
  refine Olp (.i a1.Place) zaf zav ?_
  refine Of ((Wheel.cells a0)) zcs ?_
  refine Olp (.sl .no 1 (a0.Coins.map cI)) zaA zaO ?_
  refine Om (.i a2) ?_
  obtain ⟨x2,hx2,hM⟩:=zaj hM
  refine zaW (xs:=a0.Coins) (f:=cI) (z:=a2) (u:=x2) (by decide) rfl rfl zaG hx2 ?_
  refine Olp (.i x2) zaf zav ?_
  obtain ⟨r3,hr3,hM⟩:=zaj hM
  refine zau (bs:=[.agg (Wheel.cells a0),.i a1.Place,.i x2]) (by decide) rfl rfl ((zob hr3).le (.k (.k (.k .nil)))) ?_
  refine Om (.tup [.i r3.1,.i r3.2]) ?_
  refine Ox (.i r3.1) ?_
  refine Ox (.i r3.2) ?_
  refine Oa (.i r3.1) ?_
  refine Oa (.i r3.2) ?_
  refine Ni ?_
  refine Ws ?_
  refine Sq ?_
  refine Rg 8 ?_
  refine Om (.i r3.1) ?_
  refine Of ((Stand.cells a1)) zbS ?_
  refine Olp (.i a1.Credit) zaf zav ?_
  refine Om (.i r3.2) ?_
  refine Oi (.i (w64 (a1.Credit+r3.2))) ?_
  refine zb9 (cs:=[.i r3.1,.i (w64 (a1.Credit+r3.2))]) (by decide) zcr zgZ rfl ?_
  refine za0 (v:=.agg [.i r3.1,.i (w64 (a1.Credit+r3.2))]) (ns:=[.i r3.1,.i (w64 (a1.Credit+r3.2))]) (L':=[(g+2,.cells [.i r3.1,.i (w64 (a1.Credit+r3.2))])]) 0 hS rfl rfl .no rfl rfl zd5 nlb rfl fun H hS=>?_
  refine Oa (.b false) ?_
  refine Ni ?_
  refine Ws ?_
  refine zaQ ?_
  refine zan ?_
  refine zaU (x:=.tup [.agg [.i r3.1,.i (w64 (a1.Credit+r3.2))],.b false]) (f:=fun r=>.tup [.agg [.i r.1.Place,.i r.1.Credit],.b r.2]) (.inr rfl) ?_ (.refl _) (Option.some.inj hM) hS
  exact (zc8 (zdw (x:=.agg [.i r3.1,.i (w64 (a1.Credit+r3.2))]) 0 hS rfl rfl (pg zdC)) (zae (x:=.b false) rfl))
 ·replace hM:=ifF hM hb1
  refine Cf hb1 ?_
  refine zaz ?_
  refine Ws ?_
  refine Sq ?_
  refine Sq ?_
  refine Rg 3 ?_
  refine Of ((Stand.cells a1)) zbS ?_
  refine Olp (.i a1.Credit) zaf zav ?_
  refine Oi (.b (a1.Credit==0)) ?_
  refine Ni ?_
  refine Ws ?_
  rcases bft (a1.Credit==0) with hb4 | hb4
  ·replace hM:=ifT hM hb4
   refine Ct hb4 ?_
   refine Sq ?_
   refine Rg 3 ?_
   refine Olg (.agg (Stand.cells a1)) zdC ?_
   refine za0 (v:=.agg (Stand.cells a1)) (ns:=(Stand.cells a1)) (L':=[(g+2,.cells (Stand.cells a1))]) 0 hS rfl rfl .no rfl rfl zd5 nlb rfl fun H hS=>?_
   refine Oa (.b false) ?_
   refine Ni ?_
   refine Ws ?_
   refine zaQ ?_
   refine zan ?_
   refine zaU (x:=.tup [.agg (Stand.cells a1),.b false]) (f:=fun r=>.tup [.agg [.i r.1.Place,.i r.1.Credit],.b r.2]) (.inr rfl) ?_ (.refl _) (Option.some.inj hM) hS
   exact (zc8 (zdw (x:=.agg (Stand.cells a1)) 0 hS rfl rfl (pg zdC)) (zae (x:=.b false) rfl))
  ·replace hM:=ifF hM hb4
   refine Cf hb4 ?_
   refine zaz ?_
   refine Ws ?_
   refine Sq ?_
   refine Rg 6 ?_
   refine Of ((Stand.cells a1)) zbS ?_
   refine Olp (.i a1.Credit) zaf zav ?_
   refine Oi (.i (w64 (a1.Credit-1))) ?_
   refine zb9 (cs:=[.i 0,.i (w64 (a1.Credit-1))]) (by decide) zcr zgZ rfl ?_
   refine za0 (v:=.agg [.i 0,.i (w64 (a1.Credit-1))]) (ns:=[.i 0,.i (w64 (a1.Credit-1))]) (L':=[(g+2,.cells [.i 0,.i (w64 (a1.Credit-1))])]) 0 hS rfl rfl .no rfl rfl zd5 nlb rfl fun H hS=>?_
   refine Oa (.b true) ?_
   refine Ni ?_
   refine zff [(6,.ptr (g+2) 0),(7,.b true)] (.k (.k .nil)) ?_
   refine zaQ ?_
   refine zaU (x:=.tup [.agg [.i 0,.i (w64 (a1.Credit-1))],.b true]) (f:=fun r=>.tup [.agg [.i r.1.Place,.i r.1.Credit],.b r.2]) (.inr rfl) ?_ (.refl _) (Option.some.inj hM) hS
   exact (zc8 (zdw (x:=.agg [.i 0,.i (w64 (a1.Credit-1))]) 0 hS rfl rfl (pg zdC)) (zae (x:=.b true) rfl))
theorem zjx {n:Nat} {a0:Wheel} {a1:List Int} {r:Int} (hM:zgz n a0 a1=some r):zaF Try.prog 31 [.agg (Wheel.cells a0),.sl .no 1 (a1.map cI)] (.i r):=by
 refine zak mixed Try.func31 rfl (by decide) Try.ntmps31 (by simp) ?pure fun H0 g hf=>?_
 case pure=>exact .v _
 rw [zag]
 change wpA _ _ _ _ (Fr.of [(0,.agg (Wheel.cells a0)),(1,.sl .no 1 (a1.map cI))]) H0 g
 have hS:=St.start hf
 refine Sq ?_
 refine Rg 2 ?_
 refine zcC (v:=.agg (Wheel.cells a0)) (cs:=(Wheel.cells a0)) hS (by decide) rfl rfl (by omega) fun H hS=>?_
 refine Oa (.i 0) ?_
 refine Ni ?_
 refine zbk (L':=[]) 0 2 hS rfl rfl rfl fun H hS=>?_
 refine Ws ?_
 refine Sq ?_
 refine Rg 1 ?_
 refine zck hS (by decide) zcr (by omega) fun H hS=>?_
 refine Ni ?_
 refine Ws ?_
 refine Sq ?_
 refine Rg 1 ?_
 refine Oa (.i 0) ?_
 refine Ni ?_
 refine Ws ?_
 refine zaS (J:=Int) (fun j=>[(6,.i j)]) (fun j H' g'=>St (·<g) H0 [] H' g'/\zfD j=some r) ?_ ?_
 ·rintro v1 H g1 ⟨hS,hM⟩
  change wpA _ _ _ _ (Fr.of [(6,.i v1)]) _ _
  replace hS:St (·<g) H0 [] H g1:=hS
  replace hM:zfD v1=some r:=hM
  refine Sq ?_
  refine Rg 2 ?_
  refine Om (.i v1) ?_
  refine Oa (.i v1) ?_
  refine Ni ?_
  refine Ws ?_
  refine zaQ ?_
  refine zaU (x:=.i v1) (f:=fun r=>.i r) (.inr rfl) ?_ (.refl _) (Option.some.inj hM) hS
  exact (zas (zae (x:=.i v1) rfl))
 ·refine Sq ?_
  refine Rg 1 ?_
  refine Oa (.i 0) ?_
  refine Ni ?_
  refine Ws ?_
  refine zay ?_
  refine zbU (V:=Int×Int×Int×Int) (fun v=>[(1,.sl .no 1 (a1.map cI)),(2,.ep (Wheel.cells a0)),(5,.ptr (g+2+0) 0),(6,.i v.1),(7,.i v.2.1)]) (fun v m3 H' g'=>St (·<g) H0 [(g+2+0,.cells [.i v.2.2.1,.i v.2.2.2])] H' g'/\zb8 n a0 a1 m3 v.1 v.2.1 v.2.2.1 v.2.2.2=some r) (n:=n) (0,0,0,0) (.k (.k (.k (.k (.k .nil))))) ⟨(hS.keep [true] rfl).up (by omega),hM⟩ ?_
  rintro ⟨v4,v5,v6,v7⟩ m3 H g3 ⟨hS,hM⟩
  obtain _ | m3:=m3
  ·exact nomatch (show none=some _ from hM)
  change wpA _ _ _ _ (Fr.of [(1,.sl .no 1 (a1.map cI)),(2,.ep (Wheel.cells a0)),(5,.ptr (g+2+0) 0),(6,.i v4),(7,.i v5)]) _ _
  replace hS:St (·<g) H0 [(g+2+0,.cells [.i v6,.i v7])] H g3:=hS
  replace hM:zeM n a0 a1 (zb8 n a0 a1 m3) v4 v5 v6 v7=some r:=hM
  refine Sq ?_
  refine Sq ?_
  refine Rg 4 ?_
  refine Om (.i v5) ?_
  refine Om (.sl .no 1 (a1.map cI)) ?_
  refine zbu (n:=a1.length) (by decide) rfl (List.length_map _) zax ?_
  refine Oi (.b (decide (v5<(a1.length:Int)))) ?_
  refine Ni ?_
  refine Ws ?_
  rcases bft (decide (v5<(a1.length:Int))) with hb8 | hb8
  ·replace hM:=ifT hM hb8
   refine Ct hb8 ?_
   refine zaz ?_
   refine Ws ?_
   refine Sq ?_
   refine zay ?_
   refine Sq ?_
   have hS0:=hS
   refine zcD (n:=13) rfl (by kernel_rfl) ?_
   refine Olg (.agg (Wheel.cells a0)) zb0 ?_
   refine zaX (v:=.agg [.i v6,.i v7]) 0 hS (by decide) rfl rfl (.st hS0 0 rfl (by omega)) (pg zdC) ?_
   refine Om (.sl .no 1 (a1.map cI)) ?_
   refine Om (.i v5) ?_
   obtain ⟨x9,hx9,hM⟩:=zaj hM
   refine zaW (xs:=a1) (f:=cI) (z:=v5) (u:=x9) (by decide) rfl rfl zaG hx9 ?_
   refine Olp (.i x9) zaf zav ?_
   obtain ⟨r10,hr10,hM⟩:=zaj hM
   refine zau (bs:=[.agg (Wheel.cells a0),.agg [.i v6,.i v7],.i x9]) (by decide) rfl rfl ((zoc hr10).le (.k (.k (.k .nil)))) ?_
   refine Om (.tup [.agg (Stand.cells r10.1),.b r10.2]) ?_
   refine Ox (.agg (Stand.cells r10.1)) ?_
   refine Ox (.b r10.2) ?_
   refine zck hS (by decide) zcr (by omega) fun H hS=>?_
   refine za0 (v:=.agg (Stand.cells r10.1)) (ns:=(Stand.cells r10.1)) (L':=[(g3+4+10,.cells (Stand.cells r10.1)),(g+2+0,.cells [.i v6,.i v7])]) 0 hS rfl rfl (.behind (by kernel_rfl)) rfl rfl zd5 nlb rfl fun H hS=>?_
   refine Oa (.b r10.2) ?_
   refine Ni ?_
   refine zbk (L':=[(g+2+0,.cells [.i v6,.i v7])]) 0 8 hS rfl rfl rfl fun H hS=>?_
   refine Ws ?_
   refine Sq ?_
   refine Rg 8 ?_
   refine Om (.i v4) ?_
   refine Of ((Stand.cells r10.1)) zbS ?_
   refine Olp (.i r10.1.Credit) zaf zav ?_
   refine zaP (by decide) zbS rfl ?_
   refine zaX (v:=.i v7) 0 hS (by decide) rfl rfl .no (po zaf zav) ?_
   refine Oi (.i (w64 (r10.1.Credit-v7))) ?_
   refine Oi (.i (w64 (v4+(w64 (r10.1.Credit-v7))))) ?_
   refine Oa (.i (w64 (v4+(w64 (r10.1.Credit-v7))))) ?_
   refine Ni ?_
   refine Ws ?_
   refine zaS (J:=Int) (fun j=>[(1,.sl .no 1 (a1.map cI)),(2,.ep (Wheel.cells a0)),(5,.ptr (g+2+0) 0),(6,.i j),(7,.i v5),(8,.ep (Stand.cells r10.1))]) (fun j H' g'=>St (·<g) H0 [(g+2+0,.cells [.i v6,.i v7])] H' g'/\zeL (zb8 n a0 a1 m3) v5 r10 j=some r) ?_ ?_
   ·rintro v11 H g4 ⟨hS,hM⟩
    change wpA _ _ _ _ (Fr.of [(1,.sl .no 1 (a1.map cI)),(2,.ep (Wheel.cells a0)),(5,.ptr (g+2+0) 0),(6,.i v11),(7,.i v5),(8,.ep (Stand.cells r10.1))]) _ _
    replace hS:St (·<g) H0 [(g+2+0,.cells [.i v6,.i v7])] H g4:=hS
    replace hM:zeL (zb8 n a0 a1 m3) v5 r10 v11=some r:=hM
    refine Rg 2 ?_
    refine Olg (.agg (Stand.cells r10.1)) zdC ?_
    refine za0 (v:=.agg (Stand.cells r10.1)) (ns:=(Stand.cells r10.1)) (L':=[(g+2+0,.cells (Stand.cells r10.1))]) 0 hS rfl rfl .no rfl rfl zd5 nlb rfl fun H hS=>?_
    refine Ni ?_
    refine zal ?_
    refine Ws ?_
    refine Rg 3 ?_
    refine Om (.i v5) ?_
    refine Oi (.i (w64 (v5+1))) ?_
    refine Oa (.i (w64 (v5+1))) ?_
    refine Ni ?_
    exact za6 (v11,w64 (v5+1),r10.1.Place,r10.1.Credit) (Nat.lt_succ_self _) (.k (.k (.k (.k (.k .nil))))) ⟨(hS.keep [true] rfl).up (by omega),hM⟩
   ·refine Sq ?_
    refine Rg 1 ?_
    refine Om (.b r10.2) ?_
    refine Ni ?_
    refine Ws ?_
    rcases bft r10.2 with hb12 | hb12
    ·replace hM:=ifT hM hb12
     refine Ct hb12 ?_
     refine Rg 3 ?_
     refine Om (.i (w64 (v4+(w64 (r10.1.Credit-v7))))) ?_
     refine Oi (.i (w64 ((w64 (v4+(w64 (r10.1.Credit-v7))))+1))) ?_
     refine Oa (.i (w64 ((w64 (v4+(w64 (r10.1.Credit-v7))))+1))) ?_
     refine Ni ?_
     exact zah (w64 ((w64 (v4+(w64 (r10.1.Credit-v7))))+1)) (.k (.k (.k (.k (.k (.k .nil)))))) ⟨(hS.keep [true] rfl).up (by omega),hM⟩
    ·replace hM:=ifF hM hb12
     refine Cf hb12 ?_
     refine zaz ?_
     exact zah (w64 (v4+(w64 (r10.1.Credit-v7)))) (.k (.k (.k (.k (.k (.k .nil)))))) ⟨(hS.keep [true] rfl).up (by omega),hM⟩
  ·replace hM:=ifF hM hb8
   refine Cf hb8 ?_
   refine zbM ?_
   refine zat ?_
   refine zap ?_
   refine zaD ?_
   exact zah v4 (.k .nil) ⟨(hS.keep [false] rfl).up (by omega),hM⟩
theorem zic {n:Nat} {a0:Box} {a1:List Int} {a2:List Int} {r:Bool} (hM:zd3 n a0 a1 a2=some r):zaF Try.prog 27 [.agg (Box.cells a0),.sl .no 1 (a1.map cI),.sl .no 1 (a2.map cI)] (.b r):=by
 refine zak mixed Try.func27 rfl (by decide) Try.ntmps27 (by simp) ?pure fun H0 g hf=>?_
 case pure=>exact .v _
 rw [zag]
 change wpA _ _ _ _ (Fr.of [(0,.agg (Box.cells a0)),(1,.sl .no 1 (a1.map cI)),(2,.sl .no 1 (a2.map cI))]) H0 g
 have hS:=St.start hf
 refine Sq ?_
 refine Rg 2 ?_
 refine zcC (v:=.agg (Box.cells a0)) (cs:=(Box.cells a0)) hS (by decide) rfl rfl (by omega) fun H hS=>?_
 refine Oa (.b false) ?_
 refine Ni ?_
 refine zbk (L':=[]) 0 3 hS rfl rfl rfl fun H hS=>?_
 refine Ws ?_
 refine Sq ?_
 refine zaS (J:=Bool) (fun j=>[(1,.sl .no 1 (a1.map cI)),(2,.sl .no 1 (a2.map cI)),(3,.ep (Box.cells a0)),(22,.b j)]) (fun j H' g'=>St (·<g) H0 [] H' g'/\zbt n a0 a1 a2 j=some r) ?_ ?_
 ·rintro v1 H g1 ⟨hS,hM⟩
  change wpA _ _ _ _ (Fr.of [(1,.sl .no 1 (a1.map cI)),(2,.sl .no 1 (a2.map cI)),(3,.ep (Box.cells a0)),(22,.b v1)]) _ _
  replace hS:St (·<g) H0 [] H g1:=hS
  replace hM:zbt n a0 a1 a2 v1=some r:=hM
  rcases bft v1 with hb2 | hb2
  ·replace hM:=ifT hM hb2
   refine Ct hb2 ?_
   refine Sq ?_
   refine Rg 1 ?_
   refine Oa (.b false) ?_
   refine Ni ?_
   refine Ws ?_
   refine zaQ ?_
   refine zan ?_
   refine zaU (x:=.b false) (f:=fun r=>.b r) (.inr rfl) ?_ (.refl _) (Option.some.inj hM) hS
   exact (zas (zae (x:=.b false) rfl))
  ·replace hM:=ifF hM hb2
   refine Cf hb2 ?_
   refine zaz ?_
   refine Ws ?_
   refine zaS (J:=Unit) (fun j=>[(1,.sl .no 1 (a1.map cI)),(2,.sl .no 1 (a2.map cI)),(3,.ep (Box.cells a0))]) (fun j H' g'=>St (·<g) H0 [] H' g'/\zcp n a0 a1 a2=some r) ?_ ?_
   ·rintro _ H g2 ⟨hS,hM⟩
    change wpA _ _ _ _ (Fr.of [(1,.sl .no 1 (a1.map cI)),(2,.sl .no 1 (a2.map cI)),(3,.ep (Box.cells a0))]) _ _
    replace hS:St (·<g) H0 [] H g2:=hS
    replace hM:zcp n a0 a1 a2=some r:=hM
    refine Sq ?_
    refine Rg 5 ?_
    refine Olg (.agg (Box.cells a0)) zba ?_
    obtain ⟨r3,hr3,hM⟩:=zaj hM
    refine zau (bs:=[.agg (Box.cells a0)]) (by decide) rfl rfl ((zia hr3).le (.k .nil)) ?_
    refine Om (.sl .no 1 (a1.map cI)) ?_
    obtain ⟨r4,hr4,hM⟩:=zaj hM
    refine zau (bs:=[.sl .no 1 (r3.map cI),.sl .no 1 (a1.map cI)]) (by decide) rfl rfl ((zht hr4).le (.k (.k .nil))) ?_
    refine Oa (.sl .no 1 (r4.map cI)) ?_
    refine Ni ?_
    refine Ws ?_
    refine zaS (J:=Bool) (fun j=>[(6,.b j)]) (fun j H' g'=>St (·<g) H0 [] H' g'/\zco j=some r) ?_ ?_
    ·rintro v5 H g3 ⟨hS,hM⟩
     change wpA _ _ _ _ (Fr.of [(6,.b v5)]) _ _
     replace hS:St (·<g) H0 [] H g3:=hS
     replace hM:zco v5=some r:=hM
     refine zaQ ?_
     refine zaU (x:=.b v5) (f:=fun r=>.b r) (.inr rfl) ?_ (.refl _) (Option.some.inj hM) hS
     exact (zas (zae (x:=.b v5) rfl))
    ·have hS0:=hS
     refine zcD (n:=23) rfl (by kernel_rfl) ?_
     refine Om (.sl .no 1 (a2.map cI)) ?_
     refine zbu (n:=a2.length) (by decide) rfl (List.length_map _) zax ?_
     refine Om (.sl .no 1 (r4.map cI)) ?_
     obtain ⟨r6,hr6,hM⟩:=zaj hM
     refine zau (bs:=[.sl .no 1 (r4.map cI)]) (by decide) rfl rfl ((zg1 hr6).le (.k .nil)) ?_
     refine Oi (.i (w64 (2*r6))) ?_
     refine Oi (.b (decide ((a2.length:Int)<=(w64 (2*r6))))) ?_
     refine Om (.b (decide ((a2.length:Int)<=(w64 (2*r6))))) ?_
     rcases bft (decide ((a2.length:Int)<=(w64 (2*r6)))) with hb7 | hb7
     ·replace hM:=ifT hM hb7
      refine Oy (want:=true) hb7 ?_
      refine Of ((Box.cells a0)) zbK ?_
      refine Oy (want:=true) hb7 ?_
      refine Olg (.agg (Wheel.cells a0.Wheel)) zb0 ?_
      refine Oy (want:=true) hb7 ?_
      refine Om (.sl .no 1 (a2.map cI)) ?_
      refine Oy (want:=true) hb7 ?_
      obtain ⟨r8,hr8,hM⟩:=zaj hM
      refine zau (bs:=[.agg (Wheel.cells a0.Wheel),.sl .no 1 (a2.map cI)]) (by decide) rfl rfl ((zoa hr8).le (.k (.k .nil))) ?_
      refine Oy (want:=true) hb7 ?_
      refine Om (.sl .no 1 (r4.map cI)) ?_
      refine Oy (want:=true) hb7 ?_
      obtain ⟨r9,hr9,hM⟩:=zaj hM
      refine zau (bs:=[.sl .no 1 (r8.map cI),.sl .no 1 (r4.map cI)]) (by decide) rfl rfl ((zg7 hr9).le (.k (.k .nil))) ?_
      refine Pt (.b r9) hb7 ?_
      refine Om (.b r9) ?_
      rcases bft r9 with hb10 | hb10
      ·replace hM:=ifT hM hb10
       refine Oy (want:=true) hb10 ?_
       refine Olg (.agg (Box.cells a0)) zba ?_
       refine Oy (want:=true) hb10 ?_
       refine Of ((Box.cells a0)) zbK ?_
       refine Oy (want:=true) hb10 ?_
       refine Olg (.agg (Wheel.cells a0.Wheel)) zb0 ?_
       refine Oy (want:=true) hb10 ?_
       refine Om (.sl .no 1 (a2.map cI)) ?_
       refine Oy (want:=true) hb10 ?_
       obtain ⟨r11,hr11,hM⟩:=zaj hM
       refine zau (bs:=[.agg (Wheel.cells a0.Wheel),.sl .no 1 (a2.map cI)]) (by decide) rfl rfl ((zjx hr11).le (.k (.k .nil))) ?_
       refine Oy (want:=true) hb10 ?_
       obtain ⟨r12,hr12,hM⟩:=zaj hM
       refine zau (bs:=[.agg (Box.cells a0),.i r11]) (by decide) rfl rfl ((zf1 hr12).le (.k (.k .nil))) ?_
       refine Pt (.b r12) hb10 ?_
       refine Oa (.b r12) ?_
       refine Ni ?_
       exact zah r12 (.k .nil) ⟨(hS.keep [] rfl).up (by omega),hM⟩
      ·replace hM:=ifF hM hb10
       refine On (want:=true) hb10 ?_
       refine On (want:=true) hb10 ?_
       refine On (want:=true) hb10 ?_
       refine On (want:=true) hb10 ?_
       refine On (want:=true) hb10 ?_
       refine On (want:=true) hb10 ?_
       refine Pf (.b false) hb10 ?_
       refine Oa (.b false) ?_
       refine Ni ?_
       exact zah false (.k .nil) ⟨(hS.keep [] rfl).up (by omega),hM⟩
     ·replace hM:=ifF hM hb7
      refine On (want:=true) hb7 ?_
      refine On (want:=true) hb7 ?_
      refine On (want:=true) hb7 ?_
      refine On (want:=true) hb7 ?_
      refine On (want:=true) hb7 ?_
      refine On (want:=true) hb7 ?_
      refine Pf (.b false) hb7 ?_
      refine Om (.b false) ?_
      refine Og ?_
      refine Og ?_
      refine Og ?_
      refine Og ?_
      refine Og ?_
      refine Og ?_
      refine zbp (v:=.b false) (e:=false) (by decide) rfl rfl rfl ?_
      refine Oa (.b false) ?_
      refine Ni ?_
      exact zah false (.k .nil) ⟨(hS.keep [] rfl).up (by omega),hM⟩
   ·refine Sq ?_
    refine Rg 1 ?_
    refine Oa (.i 0) ?_
    refine Ni ?_
    refine Ws ?_
    refine zay ?_
    refine zbU (V:=Int) (fun v=>[(1,.sl .no 1 (a1.map cI)),(2,.sl .no 1 (a2.map cI)),(3,.ep (Box.cells a0)),(7,.i v)]) (fun v m4 H' g'=>St (·<g) H0 [] H' g'/\zaZ n a0 a1 a2 m4 v=some r) (n:=n) 0 (.k (.k (.k (.k .nil)))) ⟨(hS.keep [] rfl).up (by omega),hM⟩ ?_
    rintro v13 m4 H g4 ⟨hS,hM⟩
    obtain _ | m4:=m4
    ·exact nomatch (show none=some _ from hM)
    change wpA _ _ _ _ (Fr.of [(1,.sl .no 1 (a1.map cI)),(2,.sl .no 1 (a2.map cI)),(3,.ep (Box.cells a0)),(7,.i v13)]) _ _
    replace hS:St (·<g) H0 [] H g4:=hS
    replace hM:zcB n a0 a1 a2 (zaZ n a0 a1 a2 m4) v13=some r:=hM
    refine Sq ?_
    refine Sq ?_
    refine Rg 4 ?_
    refine Om (.i v13) ?_
    refine Om (.sl .no 1 (a2.map cI)) ?_
    refine zbu (n:=a2.length) (by decide) rfl (List.length_map _) zax ?_
    refine Oi (.b (decide (v13<(a2.length:Int)))) ?_
    refine Ni ?_
    refine Ws ?_
    rcases bft (decide (v13<(a2.length:Int))) with hb14 | hb14
    ·replace hM:=ifT hM hb14
     refine Ct hb14 ?_
     refine zaz ?_
     refine Ws ?_
     refine Sq ?_
     refine zay ?_
     refine zaS (J:=Bool) (fun j=>[(1,.sl .no 1 (a1.map cI)),(2,.sl .no 1 (a2.map cI)),(3,.ep (Box.cells a0)),(7,.i v13),(43,.b j)]) (fun j H' g'=>St (·<g) H0 [] H' g'/\zcq (zaZ n a0 a1 a2 m4) v13 j=some r) ?_ ?_
     ·rintro v15 H g5 ⟨hS,hM⟩
      change wpA _ _ _ _ (Fr.of [(1,.sl .no 1 (a1.map cI)),(2,.sl .no 1 (a2.map cI)),(3,.ep (Box.cells a0)),(7,.i v13),(43,.b v15)]) _ _
      replace hS:St (·<g) H0 [] H g5:=hS
      replace hM:zcq (zaZ n a0 a1 a2 m4) v13 v15=some r:=hM
      rcases bft v15 with hb16 | hb16
      ·replace hM:=ifT hM hb16
       refine Ct hb16 ?_
       refine Sq ?_
       refine Rg 1 ?_
       refine Oa (.b false) ?_
       refine Ni ?_
       refine Ws ?_
       refine zaQ ?_
       refine za1 ?_
       refine zan ?_
       refine zcj ?_
       refine za1 ?_
       refine zcF ?_
       refine zaU (x:=.b false) (f:=fun r=>.b r) (.inr rfl) ?_ (.refl _) (Option.some.inj hM) hS
       exact (zas (zae (x:=.b false) rfl))
      ·replace hM:=ifF hM hb16
       refine Cf hb16 ?_
       refine zaz ?_
       refine zal ?_
       refine Ws ?_
       refine Rg 3 ?_
       refine Om (.i v13) ?_
       refine Oi (.i (w64 (v13+1))) ?_
       refine Oa (.i (w64 (v13+1))) ?_
       refine Ni ?_
       exact za6 (w64 (v13+1)) (Nat.lt_succ_self _) (.k (.k (.k (.k .nil)))) ⟨(hS.keep [] rfl).up (by omega),hM⟩
     ·have hS0:=hS
      refine zcD (n:=15) rfl (by kernel_rfl) ?_
      refine Om (.sl .no 1 (a2.map cI)) ?_
      refine Om (.i v13) ?_
      obtain ⟨x17,hx17,hM⟩:=zaj hM
      refine zaW (xs:=a2) (f:=cI) (z:=v13) (u:=x17) (by decide) rfl rfl zaG hx17 ?_
      refine Olp (.i x17) zaf zav ?_
      refine Oi (.b (decide (x17<(-1)))) ?_
      refine Om (.b (decide (x17<(-1)))) ?_
      rcases bft (decide (x17<(-1))) with hb18 | hb18
      ·replace hM:=ifT hM hb18
       refine On (want:=false) hb18 ?_
       refine On (want:=false) hb18 ?_
       refine On (want:=false) hb18 ?_
       refine On (want:=false) hb18 ?_
       refine On (want:=false) hb18 ?_
       refine On (want:=false) hb18 ?_
       refine On (want:=false) hb18 ?_
       refine On (want:=false) hb18 ?_
       refine Pt (.b true) hb18 ?_
       refine Ni ?_
       exact zah true (.k (.k (.k (.k (.k .nil))))) ⟨(hS.keep [] rfl).up (by omega),hM⟩
      ·replace hM:=ifF hM hb18
       refine Oy (want:=false) hb18 ?_
       refine Om (.sl .no 1 (a2.map cI)) ?_
       refine Oy (want:=false) hb18 ?_
       refine Om (.i v13) ?_
       refine Oy (want:=false) hb18 ?_
       obtain ⟨x19,hx19,hM⟩:=zaj hM
       refine zaW (xs:=a2) (f:=cI) (z:=v13) (u:=x19) (by decide) rfl rfl zaG hx19 ?_
       refine Oy (want:=false) hb18 ?_
       refine Olp (.i x19) zaf zav ?_
       refine Oy (want:=false) hb18 ?_
       refine Of ((Box.cells a0)) zcN ?_
       refine Oy (want:=false) hb18 ?_
       refine Olp (.sl .no 1 (a0.Found.map cI)) zaA zaO ?_
       refine Oy (want:=false) hb18 ?_
       refine zbu (n:=a0.Found.length) (by decide) rfl (List.length_map _) zax ?_
       refine Oy (want:=false) hb18 ?_
       refine Oi (.b (decide (x19≥(a0.Found.length:Int)))) ?_
       refine Pf (.b (decide (x19≥(a0.Found.length:Int)))) hb18 ?_
       refine Ni ?_
       exact zah (decide (x19≥(a0.Found.length:Int))) (.k (.k (.k (.k (.k .nil))))) ⟨(hS.keep [] rfl).up (by omega),hM⟩
    ·replace hM:=ifF hM hb14
     refine Cf hb14 ?_
     refine zbM ?_
     refine zat ?_
     refine zap ?_
     refine zaD ?_
     exact zah () (.k (.k (.k .nil))) ⟨(hS.keep [] rfl).up (by omega),hM⟩
 ·refine Rg 14 ?_
  refine Om (.sl .no 1 (a2.map cI)) ?_
  refine zbu (n:=a2.length) (by decide) rfl (List.length_map _) zax ?_
  refine Oi (.b (decide ((a2.length:Int)>40))) ?_
  refine Om (.b (decide ((a2.length:Int)>40))) ?_
  rcases bft (decide ((a2.length:Int)>40)) with hb20 | hb20
  ·replace hM:=ifT hM hb20
   refine On (want:=false) hb20 ?_
   refine On (want:=false) hb20 ?_
   refine On (want:=false) hb20 ?_
   refine Pt (.b true) hb20 ?_
   refine Om (.b true) ?_
   refine Og ?_
   refine Og ?_
   refine Og ?_
   refine Og ?_
   refine zct (v:=.b true) (e:=true) (by decide) rfl rfl rfl ?_
   refine Ni ?_
   exact zah true (.k (.k (.k (.k .nil)))) ⟨(hS.keep [] rfl).up (by omega),hM⟩
  ·replace hM:=ifF hM hb20
   refine Oy (want:=false) hb20 ?_
   refine Om (.sl .no 1 (a1.map cI)) ?_
   refine Oy (want:=false) hb20 ?_
   refine zbu (n:=a1.length) (by decide) rfl (List.length_map _) zax ?_
   refine Oy (want:=false) hb20 ?_
   refine Oi (.b (decide ((a1.length:Int)>40))) ?_
   refine Pf (.b (decide ((a1.length:Int)>40))) hb20 ?_
   refine Om (.b (decide ((a1.length:Int)>40))) ?_
   rcases bft (decide ((a1.length:Int)>40)) with hb21 | hb21
   ·replace hM:=ifT hM hb21
    refine On (want:=false) hb21 ?_
    refine On (want:=false) hb21 ?_
    refine On (want:=false) hb21 ?_
    refine On (want:=false) hb21 ?_
    refine Pt (.b true) hb21 ?_
    refine Ni ?_
    exact zah true (.k (.k (.k (.k .nil)))) ⟨(hS.keep [] rfl).up (by omega),hM⟩
   ·replace hM:=ifF hM hb21
    refine Oy (want:=false) hb21 ?_
    refine Olg (.agg (Box.cells a0)) zba ?_
    refine Oy (want:=false) hb21 ?_
    refine Om (.sl .no 1 (a1.map cI)) ?_
    refine Oy (want:=false) hb21 ?_
    obtain ⟨r22,hr22,hM⟩:=zaj hM
    refine zau (bs:=[.agg (Box.cells a0),.sl .no 1 (a1.map cI)]) (by decide) rfl rfl ((zgJ hr22).le (.k (.k .nil))) ?_
    refine Oy (want:=false) hb21 ?_
    refine zdD (e:=r22) (by decide) rfl ?_
    refine Pf (.b (!r22)) hb21 ?_
    refine Ni ?_
    exact zah (!r22) (.k (.k (.k (.k .nil)))) ⟨(hS.keep [] rfl).up (by omega),hM⟩
end Go.Proofs.Ytenogpmlhpcibaa
