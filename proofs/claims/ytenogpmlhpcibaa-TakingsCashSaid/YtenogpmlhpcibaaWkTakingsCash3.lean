/-
  The code returns what the functions say (printed by gen.py).
  Conditions: none.
-/
import Derived.Test.YtenogpmlhpcibaaWkTakingsCash2
import Derived.Test.YtenogpmlhpcibaaAmOx
import Derived.Test.YtenogpmlhpcibaaSh
import Derived.Test.YtenogpmlhpcibaaKs
import Derived.Test.YtenogpmlhpcibaaEn
set_option linter.all false
namespace Go.Proofs.Ytenogpmlhpcibaa
open Go Go.AM Go.Law
set_option linter.unusedVariables false
set_option maxRecDepth 4000
set_option maxHeartbeats 4000000
theorem zfz {n:Nat} {a0:Box} {r:Int×Int×Int×Int} (hM:zdR n a0=some r):zaJ Try.prog 20 [.agg (Box.cells a0)] (.tup [.i r.1,.i r.2.1,.i r.2.2.1,.i r.2.2.2]):=by
 refine zap mixed Try.func20 rfl (by decide) Try.ntmps20 (by simp) ?pure fun H0 g hf=>?_
 case pure=>exact .tup _ (zac (.v _) (zac (.v _) (zac (.v _) (zac (.v _) zaD))))
 rw [zaj]
 change wpA _ _ _ _ (Fr.of [(0,.agg (Box.cells a0))]) H0 g
 have hS:=St.start hf
 refine Sq ?_
 refine Rg 5 ?_
 refine zcW (v:=.agg (Box.cells a0)) (cs:=(Box.cells a0)) hS (by decide) rfl rfl (by omega) fun H hS=>?_
 refine Oa (.i 0) ?_
 refine Oa (.i 0) ?_
 refine Oa (.i 0) ?_
 refine Oa (.i 0) ?_
 refine Ni ?_
 refine zbN (L':=[]) 0 1 hS rfl rfl rfl fun H hS=>?_
 refine Ws ?_
 refine Sq ?_
 refine Rg 7 ?_
 refine Olg (.agg (Box.cells a0)) zbf ?_
 obtain ⟨r1,hr1,hM⟩:=zak hM
 refine zaB (bs:=[.agg (Box.cells a0)]) (by decide) rfl rfl ((zew hr1).le (.k .nil)) ?_
 refine Om (.tup [pA Box_.cells r1.1,.i r1.2]) ?_
 refine Ox (pA Box_.cells r1.1) ?_
 refine Ox (.i r1.2) ?_
 refine Oa (pA Box_.cells r1.1) ?_
 refine Oa (.i r1.2) ?_
 refine Ni ?_
 refine Ws ?_
 refine Sq ?_
 refine Sq ?_
 refine Rg 2 ?_
 refine Om (.i r1.2) ?_
 refine Oi (.b (r1.2 != 0)) ?_
 refine Ni ?_
 refine Ws ?_
 rcases bft (r1.2 != 0) with hb2 | hb2
 ·replace hM:=ifT hM hb2
  refine Ct hb2 ?_
  refine Sq ?_
  refine Rg 5 ?_
  refine Om (.i r1.2) ?_
  refine Oa (.i 0) ?_
  refine Oa (.i 0) ?_
  refine Oa (.i 0) ?_
  refine Oa (.i r1.2) ?_
  refine Ni ?_
  refine Ws ?_
  refine zaT ?_
  refine zau ?_
  refine za5 (x:=.tup [.i 0,.i 0,.i 0,.i r1.2]) (f:=fun r=>.tup [.i r.1,.i r.2.1,.i r.2.2.1,.i r.2.2.2]) (.inr rfl) ?_ (.refl _) (Option.some.inj hM) hS
  exact (znp (zae (x:=.i 0) rfl) (zae (x:=.i 0) rfl) (zae (x:=.i 0) rfl) (zae (x:=.i r1.2) rfl))
 ·replace hM:=ifF hM hb2
  refine Cf hb2 ?_
  refine zaN ?_
  refine Ws ?_
  refine Sq ?_
  refine Rg 5 ?_
  refine Om (pA Box_.cells r1.1) ?_
  refine Of ((Box.cells a0)) zdw ?_
  refine Olp (.sl .no 1 (a0.Marked.map cI)) zan zaE ?_
  obtain ⟨r3,hr3,hM⟩:=zak hM
  refine zaB (bs:=[pA Box_.cells r1.1,.sl .no 1 (a0.Marked.map cI)]) (by decide) rfl rfl ((zba hr3).le (.k (.k .nil))) ?_
  refine Oa (.i r3) ?_
  refine Ni ?_
  refine Ws ?_
  refine Sq ?_
  have hS0:=hS
  refine zc3 (n:=15) rfl (by kernel_rfl) ?_
  refine Om (pA Box_.cells r1.1) ?_
  refine Of ((Box.cells a0)) zbV ?_
  refine Olp (.sl .no 1 (a0.Found.map cI)) zan zaE ?_
  obtain ⟨r4,hr4,hM⟩:=zak hM
  refine zaB (bs:=[pA Box_.cells r1.1,.sl .no 1 (a0.Found.map cI)]) (by decide) rfl rfl ((zba hr4).le (.k (.k .nil))) ?_
  refine Om (.i r3) ?_
  refine Oi (.i (w64 (r4-r3))) ?_
  refine Om (.i r3) ?_
  refine Om (pA Box_.cells r1.1) ?_
  refine Of ((Box.cells a0)) zdx ?_
  refine Olp (.sl .no 1 (a0.Slugs.map cI)) zan zaE ?_
  obtain ⟨r5,hr5,hM⟩:=zak hM
  refine zaB (bs:=[pA Box_.cells r1.1,.sl .no 1 (a0.Slugs.map cI)]) (by decide) rfl rfl ((zba hr5).le (.k (.k .nil))) ?_
  refine Oa (.i (w64 (r4-r3))) ?_
  refine Oa (.i r3) ?_
  refine Oa (.i r5) ?_
  refine Oa (.i 0) ?_
  refine Ni ?_
  refine zfk [(2,.i (w64 (r4-r3))),(3,.i r3),(4,.i r5),(5,.i 0)] (.k (.k (.k (.k .nil)))) ?_
  refine zaT ?_
  refine za5 (x:=.tup [.i (w64 (r4-r3)),.i r3,.i r5,.i 0]) (f:=fun r=>.tup [.i r.1,.i r.2.1,.i r.2.2.1,.i r.2.2.2]) (.inr rfl) ?_ (.refl _) (Option.some.inj hM) hS
  exact (znp (zae (x:=.i (w64 (r4-r3))) rfl) (zae (x:=.i r3) rfl) (zae (x:=.i r5) rfl) (zae (x:=.i 0) rfl))
theorem zf8 {n:Nat} {a0:List Int} {a1:List Int} {r:Bool} (hM:zdv n a0 a1=some r):zaJ Try.prog 21 [.sl .no 1 (a0.map cI),.sl .no 1 (a1.map cI)] (.b r):=by
 refine zap mixed Try.func21 rfl (by decide) Try.ntmps21 (by simp) ?pure fun H0 g hf=>?_
 case pure=>exact .v _
 rw [zaj]
 change wpA _ _ _ _ (Fr.of [(0,.sl .no 1 (a0.map cI)),(1,.sl .no 1 (a1.map cI))]) H0 g
 have hS:=St.start hf
 refine Sq ?_
 refine Rg 1 ?_
 refine Oa (.b false) ?_
 refine Ni ?_
 refine Ws ?_
 refine Sq ?_
 refine Sq ?_
 refine Rg 5 ?_
 refine Om (.sl .no 1 (a0.map cI)) ?_
 refine zb8 (n:=a0.length) (by decide) rfl (List.length_map _) zaM ?_
 refine Om (.sl .no 1 (a1.map cI)) ?_
 refine zb8 (n:=a1.length) (by decide) rfl (List.length_map _) zaM ?_
 refine Oi (.b ((a0.length:Int) != (a1.length:Int))) ?_
 refine Ni ?_
 refine Ws ?_
 rcases bft ((a0.length:Int) != (a1.length:Int)) with hb1 | hb1
 ·replace hM:=ifT hM hb1
  refine Ct hb1 ?_
  refine Sq ?_
  refine Rg 1 ?_
  refine Oa (.b false) ?_
  refine Ni ?_
  refine Ws ?_
  refine zaT ?_
  refine zau ?_
  refine za5 (x:=.b false) (f:=fun r=>.b r) (.inr rfl) ?_ (.refl _) (Option.some.inj hM) hS
  exact (zay (zae (x:=.b false) rfl))
 ·replace hM:=ifF hM hb1
  refine Cf hb1 ?_
  refine zaN ?_
  refine Ws ?_
  refine zbi (J:=Unit) (fun j=>[]) (fun j H' g'=>St (·<g) H0 [] H' g'/\zdl=some r) ?_ ?_
  ·rintro _ H g1 ⟨hS,hM⟩
   change wpA _ _ _ _ (Fr.of []) _ _
   replace hS:St (·<g) H0 [] H g1:=hS
   replace hM:zdl=some r:=hM
   refine Sq ?_
   refine Rg 1 ?_
   refine Oa (.b true) ?_
   refine Ni ?_
   refine Ws ?_
   refine zaT ?_
   refine za5 (x:=.b true) (f:=fun r=>.b r) (.inr rfl) ?_ (.refl _) (Option.some.inj hM) hS
   exact (zay (zae (x:=.b true) rfl))
  ·refine Sq ?_
   refine Rg 1 ?_
   refine Oa (.i 0) ?_
   refine Ni ?_
   refine Ws ?_
   refine zaO ?_
   refine zcx (V:=Int) (fun v=>[(0,.sl .no 1 (a0.map cI)),(1,.sl .no 1 (a1.map cI)),(5,.i v)]) (fun v m2 H' g'=>St (·<g) H0 [] H' g'/\zbt a0 a1 m2 v=some r) (n:=n) 0 (.k (.k (.k .nil))) ⟨(hS.keep [] rfl).up (by omega),hM⟩ ?_
   rintro v2 m2 H g2 ⟨hS,hM⟩
   obtain _ | m2:=m2
   ·exact nomatch (show none=some _ from hM)
   change wpA _ _ _ _ (Fr.of [(0,.sl .no 1 (a0.map cI)),(1,.sl .no 1 (a1.map cI)),(5,.i v2)]) _ _
   replace hS:St (·<g) H0 [] H g2:=hS
   replace hM:zcE a0 a1 (zbt a0 a1 m2) v2=some r:=hM
   refine Sq ?_
   refine Sq ?_
   refine Rg 4 ?_
   refine Om (.i v2) ?_
   refine Om (.sl .no 1 (a0.map cI)) ?_
   refine zb8 (n:=a0.length) (by decide) rfl (List.length_map _) zaM ?_
   refine Oi (.b (decide (v2<(a0.length:Int)))) ?_
   refine Ni ?_
   refine Ws ?_
   rcases bft (decide (v2<(a0.length:Int))) with hb3 | hb3
   ·replace hM:=ifT hM hb3
    refine Ct hb3 ?_
    refine zaN ?_
    refine Ws ?_
    refine Sq ?_
    refine zaO ?_
    refine Sq ?_
    have hS0:=hS
    refine zc3 (n:=9) rfl (by kernel_rfl) ?_
    refine Om (.sl .no 1 (a0.map cI)) ?_
    refine Om (.i v2) ?_
    obtain ⟨x4,hx4,hM⟩:=zak hM
    refine zaZ (xs:=a0) (f:=cI) (z:=v2) (u:=x4) (by decide) rfl rfl zaw hx4 ?_
    refine Olp (.i x4) zag zav ?_
    refine Om (.sl .no 1 (a1.map cI)) ?_
    refine Om (.i v2) ?_
    obtain ⟨x5,hx5,hM⟩:=zak hM
    refine zaZ (xs:=a1) (f:=cI) (z:=v2) (u:=x5) (by decide) rfl rfl zaw hx5 ?_
    refine Olp (.i x5) zag zav ?_
    refine Oi (.b (x4 != x5)) ?_
    refine Ni ?_
    refine Ws ?_
    rcases bft (x4 != x5) with hb6 | hb6
    ·replace hM:=ifT hM hb6
     refine Ct hb6 ?_
     refine Sq ?_
     refine Rg 1 ?_
     refine Oa (.b false) ?_
     refine Ni ?_
     refine Ws ?_
     refine zaT ?_
     refine zbH ?_
     refine zau ?_
     refine zc4 ?_
     refine zbH ?_
     refine zdM ?_
     refine za5 (x:=.b false) (f:=fun r=>.b r) (.inr rfl) ?_ (.refl _) (Option.some.inj hM) hS
     exact (zay (zae (x:=.b false) rfl))
    ·replace hM:=ifF hM hb6
     refine Cf hb6 ?_
     refine zaN ?_
     refine zaH ?_
     refine Ws ?_
     refine Rg 3 ?_
     refine Om (.i v2) ?_
     refine Oi (.i (w64 (v2+1))) ?_
     refine Oa (.i (w64 (v2+1))) ?_
     refine Ni ?_
     exact zbQ (w64 (v2+1)) (Nat.lt_succ_self _) (.k (.k (.k .nil))) ⟨(hS.keep [] rfl).up (by omega),hM⟩
   ·replace hM:=ifF hM hb3
    refine Cf hb3 ?_
    refine zcl ?_
    refine zaK ?_
    refine zaI ?_
    refine zaQ ?_
    exact zao () .nil ⟨(hS.keep [] rfl).up (by omega),hM⟩
theorem ziI {n:Nat} {a0:List Int} {r:Int} (hM:slices_Max_int n a0=some r):zaJ Try.prog 73 [.sl .no 1 (a0.map cI)] (.i r):=by
 refine zap mixed Try.func73 rfl (by decide) Try.ntmps73 (by simp) ?pure fun H0 g hf=>?_
 case pure=>exact .v _
 rw [zaj]
 change wpA _ _ _ _ (Fr.of [(0,.sl .no 1 (a0.map cI))]) H0 g
 have hS:=St.start hf
 refine Sq ?_
 refine Rg 1 ?_
 refine Oa (.i 0) ?_
 refine Ni ?_
 refine Ws ?_
 refine zbi (J:=Unit) (fun j=>[(0,.sl .no 1 (a0.map cI))]) (fun j H' g'=>St (·<g) H0 [] H' g'/\zdn n a0=some r) ?_ ?_
 ·rintro _ H g1 ⟨hS,hM⟩
  change wpA _ _ _ _ (Fr.of [(0,.sl .no 1 (a0.map cI))]) _ _
  replace hS:St (·<g) H0 [] H g1:=hS
  replace hM:zdn n a0=some r:=hM
  refine Sq ?_
  refine Rg 4 ?_
  refine Om (.sl .no 1 (a0.map cI)) ?_
  obtain ⟨x1,hx1,hM⟩:=zak hM
  refine zaZ (xs:=a0) (f:=cI) (z:=0) (u:=x1) (by decide) rfl rfl zaw hx1 ?_
  refine Olp (.i x1) zag zav ?_
  refine Oa (.i x1) ?_
  refine Ni ?_
  refine Ws ?_
  refine zbi (J:=Int) (fun j=>[(3,.i j)]) (fun j H' g'=>St (·<g) H0 [] H' g'/\zdm j=some r) ?_ ?_
  ·rintro v2 H g2 ⟨hS,hM⟩
   change wpA _ _ _ _ (Fr.of [(3,.i v2)]) _ _
   replace hS:St (·<g) H0 [] H g2:=hS
   replace hM:zdm v2=some r:=hM
   refine Sq ?_
   refine Rg 2 ?_
   refine Om (.i v2) ?_
   refine Oa (.i v2) ?_
   refine Ni ?_
   refine Ws ?_
   refine zaT ?_
   refine za5 (x:=.i v2) (f:=fun r=>.i r) (.inr rfl) ?_ (.refl _) (Option.some.inj hM) hS
   exact (zay (zae (x:=.i v2) rfl))
  ·refine Sq ?_
   refine Rg 1 ?_
   refine Oa (.i 1) ?_
   refine Ni ?_
   refine Ws ?_
   refine zaO ?_
   refine zcx (V:=Int×Int) (fun v=>[(0,.sl .no 1 (a0.map cI)),(3,.i v.1),(4,.i v.2)]) (fun v m3 H' g'=>St (·<g) H0 [] H' g'/\zbM a0 m3 v.1 v.2=some r) (n:=n) (x1,1) (.k (.k (.k .nil))) ⟨(hS.keep [] rfl).up (by omega),hM⟩ ?_
   rintro ⟨v3,v4⟩ m3 H g3 ⟨hS,hM⟩
   obtain _ | m3:=m3
   ·exact nomatch (show none=some _ from hM)
   change wpA _ _ _ _ (Fr.of [(0,.sl .no 1 (a0.map cI)),(3,.i v3),(4,.i v4)]) _ _
   replace hS:St (·<g) H0 [] H g3:=hS
   replace hM:zcF a0 (zbM a0 m3) v3 v4=some r:=hM
   refine Sq ?_
   refine Sq ?_
   refine Rg 4 ?_
   refine Om (.i v4) ?_
   refine Om (.sl .no 1 (a0.map cI)) ?_
   refine zb8 (n:=a0.length) (by decide) rfl (List.length_map _) zaM ?_
   refine Oi (.b (decide (v4<(a0.length:Int)))) ?_
   refine Ni ?_
   refine Ws ?_
   rcases bft (decide (v4<(a0.length:Int))) with hb5 | hb5
   ·replace hM:=ifT hM hb5
    refine Ct hb5 ?_
    refine zaN ?_
    refine Ws ?_
    refine Sq ?_
    refine zaO ?_
    refine Rg 7 ?_
    refine Om (.i v3) ?_
    refine Om (.sl .no 1 (a0.map cI)) ?_
    refine Om (.i v4) ?_
    obtain ⟨x6,hx6,hM⟩:=zak hM
    refine zaZ (xs:=a0) (f:=cI) (z:=v4) (u:=x6) (by decide) rfl rfl zaw hx6 ?_
    refine Olp (.i x6) zag zav ?_
    refine zsm (v:=.i (max v3 x6)) (by decide) rfl ?_
    refine Oa (.i (max v3 x6)) ?_
    refine Ni ?_
    refine zaH ?_
    refine Ws ?_
    refine Rg 3 ?_
    refine Om (.i v4) ?_
    refine Oi (.i (w64 (v4+1))) ?_
    refine Oa (.i (w64 (v4+1))) ?_
    refine Ni ?_
    exact zbQ ((max v3 x6),w64 (v4+1)) (Nat.lt_succ_self _) (.k (.k (.k .nil))) ⟨(hS.keep [] rfl).up (by omega),hM⟩
   ·replace hM:=ifF hM hb5
    refine Cf hb5 ?_
    refine zcl ?_
    refine zaK ?_
    refine zaI ?_
    refine zaQ ?_
    exact zao v3 (.k .nil) ⟨(hS.keep [] rfl).up (by omega),hM⟩
 ·refine Sq ?_
  refine Rg 3 ?_
  refine Om (.sl .no 1 (a0.map cI)) ?_
  refine zb8 (n:=a0.length) (by decide) rfl (List.length_map _) zaM ?_
  refine Oi (.b (decide ((a0.length:Int)<1))) ?_
  refine Ni ?_
  refine Ws ?_
  rcases bft (decide ((a0.length:Int)<1)) with hb7 | hb7
  ·replace hM:=ifT hM hb7
   refine Ct hb7 ?_
   refine Rg 2 ?_
   exact nomatch (show none=some _ from hM)
  ·replace hM:=ifF hM hb7
   refine Cf hb7 ?_
   refine zaN ?_
   exact zao () (.k .nil) ⟨(hS.keep [] rfl).up (by omega),hM⟩
theorem zjN {n:Nat} {a0:Box} {r:Int×Int} (hM:zeU n a0=some r):zaJ Try.prog 39 [.agg (Box.cells a0)] (.tup [.i r.1,.i r.2]):=by
 refine zap mixed Try.func39 rfl (by decide) Try.ntmps39 (by simp) ?pure fun H0 g hf=>?_
 case pure=>exact .tup _ (zac (.v _) (zac (.v _) zaD))
 rw [zaj]
 change wpA _ _ _ _ (Fr.of [(0,.agg (Box.cells a0))]) H0 g
 have hS:=St.start hf
 refine Sq ?_
 refine Rg 3 ?_
 refine zcW (v:=.agg (Box.cells a0)) (cs:=(Box.cells a0)) hS (by decide) rfl rfl (by omega) fun H hS=>?_
 refine Oa (.i 0) ?_
 refine Oa (.i 0) ?_
 refine Ni ?_
 refine zbN (L':=[]) 0 1 hS rfl rfl rfl fun H hS=>?_
 refine Ws ?_
 refine Sq ?_
 refine Rg 7 ?_
 refine Olg (.agg (Box.cells a0)) zbf ?_
 obtain ⟨r1,hr1,hM⟩:=zak hM
 refine zaB (bs:=[.agg (Box.cells a0)]) (by decide) rfl rfl ((zew hr1).le (.k .nil)) ?_
 refine Om (.tup [pA Box_.cells r1.1,.i r1.2]) ?_
 refine Ox (pA Box_.cells r1.1) ?_
 refine Ox (.i r1.2) ?_
 refine Oa (pA Box_.cells r1.1) ?_
 refine Oa (.i r1.2) ?_
 refine Ni ?_
 refine Ws ?_
 refine Sq ?_
 refine Sq ?_
 refine Rg 2 ?_
 refine Om (.i r1.2) ?_
 refine Oi (.b (r1.2 != 0)) ?_
 refine Ni ?_
 refine Ws ?_
 rcases bft (r1.2 != 0) with hb2 | hb2
 ·replace hM:=ifT hM hb2
  refine Ct hb2 ?_
  refine Sq ?_
  refine Rg 3 ?_
  refine Om (.i r1.2) ?_
  refine Oa (.i 0) ?_
  refine Oa (.i r1.2) ?_
  refine Ni ?_
  refine Ws ?_
  refine zaT ?_
  refine zau ?_
  refine za5 (x:=.tup [.i 0,.i r1.2]) (f:=fun r=>.tup [.i r.1,.i r.2]) (.inr rfl) ?_ (.refl _) (Option.some.inj hM) hS
  exact (zdH (zae (x:=.i 0) rfl) (zae (x:=.i r1.2) rfl))
 ·replace hM:=ifF hM hb2
  refine Cf hb2 ?_
  refine zaN ?_
  refine Ws ?_
  refine Sq ?_
  have hS0:=hS
  refine zc3 (n:=9) rfl (by kernel_rfl) ?_
  refine Of ((Box.cells a0)) zgw ?_
  refine Olp (.i a0.Plays) zag zav ?_
  refine Om (pA Box_.cells r1.1) ?_
  obtain ⟨r3,hr3,hM⟩:=zak hM
  refine zaB (bs:=[pA Box_.cells r1.1]) (by decide) rfl rfl ((zfL hr3).le (.k .nil)) ?_
  obtain ⟨r4,hr4,hM⟩:=zak hM
  refine zaB (bs:=[.sl .no 1 (r3.map cI)]) (by decide) rfl rfl ((ziI hr4).le (.k .nil)) ?_
  refine Oi (.i (w64 (a0.Plays-r4))) ?_
  refine zsm (v:=.i (max 0 (w64 (a0.Plays-r4)))) (by decide) rfl ?_
  refine Oa (.i (max 0 (w64 (a0.Plays-r4)))) ?_
  refine Oa (.i 0) ?_
  refine Ni ?_
  refine zfk [(2,.i (max 0 (w64 (a0.Plays-r4)))),(3,.i 0)] (.k (.k .nil)) ?_
  refine zaT ?_
  refine za5 (x:=.tup [.i (max 0 (w64 (a0.Plays-r4))),.i 0]) (f:=fun r=>.tup [.i r.1,.i r.2]) (.inr rfl) ?_ (.refl _) (Option.some.inj hM) hS
  exact (zdH (zae (x:=.i (max 0 (w64 (a0.Plays-r4)))) rfl) (zae (x:=.i 0) rfl))
theorem zjO {r:Wheel} (hM:zhC=some r):zaJ Try.prog 95 [] (.agg [.i r.Round,.sl .no 1 (r.Notches.map cI),.sl .no 1 (r.Coins.map cI)]):=by
 refine zap mixed Try.func95 rfl (by decide) Try.ntmps95 (by simp) ?pure fun H0 g hf=>?_
 case pure=>exact .agg _ (zac (.v _) (zac (.sl _ _ (zat (fun x=>(zac (.v _) zaD)))) (zac (.sl _ _ (zat (fun x=>(zac (.v _) zaD)))) zaD)))
 rw [zaj]
 change wpA _ _ _ _ (Fr.of []) H0 g
 have hS:=St.start hf
 refine Sq ?_
 refine Rg 1 ?_
 refine zbY hS (by decide) zhF (by omega) fun H hS=>?_
 refine Ni ?_
 refine Ws ?_
 refine Sq ?_
 refine Rg 4 ?_
 refine za2 (es:=[[.i 10],[.i 20],[.i 25]]) hS (by decide) zaw zb1 rfl zbU rfl (by decide) (by omega) fun H hS=>?_
 refine za2 (es:=[[.i 5],[.i 10],[.i 25]]) hS (by decide) zaw zb1 rfl zbU rfl (by decide) (by omega) fun H hS=>?_
 refine zbZ (cs:=[.i 50,.sl (.id (g+1+0)) 1 (([10,20,25]:List Int).map cI),.sl (.id (g+1+1)) 1 (([5,10,25]:List Int).map cI)]) (by decide) zhF zpZ rfl ?_
 refine zaU (v:=.agg [.i 50,.sl (.id (g+1+0)) 1 (([10,20,25]:List Int).map cI),.sl (.id (g+1+1)) 1 (([5,10,25]:List Int).map cI)]) (ns:=[.i 50,.sl (.id (g+1+0)) 1 (([10,20,25]:List Int).map cI),.sl (.id (g+1+1)) 1 (([5,10,25]:List Int).map cI)]) (L':=[(g+1+1,.row 3 3),(g+1+0,.row 3 3),(g+0,.cells [.i 50,.sl (.id (g+1+0)) 1 (([10,20,25]:List Int).map cI),.sl (.id (g+1+1)) 1 (([5,10,25]:List Int).map cI)])]) 2 hS rfl rfl .no rfl rfl zk9 nlb rfl fun H hS=>?_
 refine Ni ?_
 refine zfk [(0,.ptr (g+0) 0)] (.k .nil) ?_
 refine zaT ?_
 refine za5 (x:=.agg [.i 50,.sl (.id (g+1+0)) 1 (([10,20,25]:List Int).map cI),.sl (.id (g+1+1)) 1 (([5,10,25]:List Int).map cI)]) (f:=fun r=>.agg [.i r.Round,.sl .no 1 (r.Notches.map cI),.sl .no 1 (r.Coins.map cI)]) (.inr rfl) ?_ (.aggL (.k (.cons (.sl _ _ _) (.cons (.sl _ _ _) .nil)))) (Option.some.inj hM) hS
 exact (zay (zdh (x:=.agg [.i 50,.sl (.id (g+1+0)) 1 (([10,20,25]:List Int).map cI),.sl (.id (g+1+1)) 1 (([5,10,25]:List Int).map cI)]) 2 hS rfl rfl (pg zcH)))
theorem zjP {r:Box} (hM:zfX=some r):zaJ Try.prog 58 [] (.agg [.i r.Wheel.Round,.sl .no 1 (r.Wheel.Notches.map cI),.sl .no 1 (r.Wheel.Coins.map cI),.sl .no 1 (r.Found.map cI),.sl .no 1 (r.Marked.map cI),.sl .no 1 (r.Slugs.map cI),.i r.Plays,.i r.Skips]):=by
 refine zap mixed Try.func58 rfl (by decide) Try.ntmps58 (by simp) ?pure fun H0 g hf=>?_
 case pure=>exact .agg _ (zac (.v _) (zac (.sl _ _ (zat (fun x=>(zac (.v _) zaD)))) (zac (.sl _ _ (zat (fun x=>(zac (.v _) zaD)))) (zac (.sl _ _ (zat (fun x=>(zac (.v _) zaD)))) (zac (.sl _ _ (zat (fun x=>(zac (.v _) zaD)))) (zac (.sl _ _ (zat (fun x=>(zac (.v _) zaD)))) (zac (.v _) (zac (.v _) zaD))))))))
 rw [zaj]
 change wpA _ _ _ _ (Fr.of []) H0 g
 have hS:=St.start hf
 refine Sq ?_
 refine Rg 1 ?_
 refine zbY hS (by decide) zfG (by omega) fun H hS=>?_
 refine Ni ?_
 refine Ws ?_
 refine Sq ?_
 refine Rg 6 ?_
 obtain ⟨r1,hr1,hM⟩:=zak hM
 refine zaB (bs:=[]) (by decide) rfl rfl ((zjO hr1).le .nil) ?_
 refine za2 (es:=[[.i 0],[.i 2],[.i 1]]) hS (by decide) zaw zb1 rfl zbU rfl (by decide) (by omega) fun H hS=>?_
 refine za2 (es:=[[.i 0],[.i 1],[.i 0]]) hS (by decide) zaw zb1 rfl zbU rfl (by decide) (by omega) fun H hS=>?_
 refine za2 (es:=[[.i 0],[.i 0],[.i 0]]) hS (by decide) zaw zb1 rfl zbU rfl (by decide) (by omega) fun H hS=>?_
 refine zbZ (cs:=[.i r1.Round,.sl .no 1 (r1.Notches.map cI),.sl .no 1 (r1.Coins.map cI),.sl (.id (g+1+1)) 1 (([0,2,1]:List Int).map cI),.sl (.id (g+1+2)) 1 (([0,1,0]:List Int).map cI),.sl (.id (g+1+3)) 1 (([0,0,0]:List Int).map cI),.i 6,.i 0]) (by decide) zfG zsA rfl ?_
 refine zaU (v:=.agg [.i r1.Round,.sl .no 1 (r1.Notches.map cI),.sl .no 1 (r1.Coins.map cI),.sl (.id (g+1+1)) 1 (([0,2,1]:List Int).map cI),.sl (.id (g+1+2)) 1 (([0,1,0]:List Int).map cI),.sl (.id (g+1+3)) 1 (([0,0,0]:List Int).map cI),.i 6,.i 0]) (ns:=[.i r1.Round,.sl .no 1 (r1.Notches.map cI),.sl .no 1 (r1.Coins.map cI),.sl (.id (g+1+1)) 1 (([0,2,1]:List Int).map cI),.sl (.id (g+1+2)) 1 (([0,1,0]:List Int).map cI),.sl (.id (g+1+3)) 1 (([0,0,0]:List Int).map cI),.i 6,.i 0]) (L':=[(g+1+3,.row 3 3),(g+1+2,.row 3 3),(g+1+1,.row 3 3),(g+0,.cells [.i r1.Round,.sl .no 1 (r1.Notches.map cI),.sl .no 1 (r1.Coins.map cI),.sl (.id (g+1+1)) 1 (([0,2,1]:List Int).map cI),.sl (.id (g+1+2)) 1 (([0,1,0]:List Int).map cI),.sl (.id (g+1+3)) 1 (([0,0,0]:List Int).map cI),.i 6,.i 0])]) 3 hS rfl rfl .no rfl rfl zhG nlb rfl fun H hS=>?_
 refine Ni ?_
 refine zfk [(0,.ptr (g+0) 0)] (.k .nil) ?_
 refine zaT ?_
 refine za5 (x:=.agg [.i r1.Round,.sl .no 1 (r1.Notches.map cI),.sl .no 1 (r1.Coins.map cI),.sl (.id (g+1+1)) 1 (([0,2,1]:List Int).map cI),.sl (.id (g+1+2)) 1 (([0,1,0]:List Int).map cI),.sl (.id (g+1+3)) 1 (([0,0,0]:List Int).map cI),.i 6,.i 0]) (f:=fun r=>.agg [.i r.Wheel.Round,.sl .no 1 (r.Wheel.Notches.map cI),.sl .no 1 (r.Wheel.Coins.map cI),.sl .no 1 (r.Found.map cI),.sl .no 1 (r.Marked.map cI),.sl .no 1 (r.Slugs.map cI),.i r.Plays,.i r.Skips]) (.inr rfl) ?_ (.aggL (.k (.k (.k (.cons (.sl _ _ _) (.cons (.sl _ _ _) (.cons (.sl _ _ _) (.k (.k .nil))))))))) (Option.some.inj hM) hS
 exact (zay (zdh (x:=.agg [.i r1.Round,.sl .no 1 (r1.Notches.map cI),.sl .no 1 (r1.Coins.map cI),.sl (.id (g+1+1)) 1 (([0,2,1]:List Int).map cI),.sl (.id (g+1+2)) 1 (([0,1,0]:List Int).map cI),.sl (.id (g+1+3)) 1 (([0,0,0]:List Int).map cI),.i 6,.i 0]) 3 hS rfl rfl (pg zbf)))
theorem zf3 {n:Nat} {r:Bool} (hM:zei n=some r):zaJ Try.prog 16 [] (.b r):=by
 refine zap mixed Try.func16 rfl (by decide) Try.ntmps16 (by simp) ?pure fun H0 g hf=>?_
 case pure=>exact .v _
 rw [zaj]
 change wpA _ _ _ _ (Fr.of []) H0 g
 have hS:=St.start hf
 refine Sq ?_
 refine Rg 1 ?_
 refine Oa (.b false) ?_
 refine Ni ?_
 refine Ws ?_
 refine Sq ?_
 refine Rg 3 ?_
 obtain ⟨r1,hr1,hM⟩:=zak hM
 refine zaB (bs:=[]) (by decide) rfl rfl ((zjP hr1).le .nil) ?_
 refine zbY hS (by decide) zfG (by omega) fun H hS=>?_
 refine zaU (v:=.agg (Box.cells r1)) (ns:=(Box.cells r1)) (L':=[(g+1+1,.cells (Box.cells r1))]) 0 hS rfl rfl .no rfl rfl zhG nlb rfl fun H hS=>?_
 refine Ni ?_
 refine zbN (L':=[]) 0 1 hS rfl rfl rfl fun H hS=>?_
 refine Ws ?_
 refine Sq ?_
 refine Rg 7 ?_
 refine Olg (.agg (Box.cells r1)) zbf ?_
 obtain ⟨r2,hr2,hM⟩:=zak hM
 refine zaB (bs:=[.agg (Box.cells r1)]) (by decide) rfl rfl ((zf2 hr2).le (.k .nil)) ?_
 refine Om (.tup [.sl .no 1 (r2.1.map cI),.i r2.2]) ?_
 refine Ox (.sl .no 1 (r2.1.map cI)) ?_
 refine Ox (.i r2.2) ?_
 refine Oa (.sl .no 1 (r2.1.map cI)) ?_
 refine Oa (.i r2.2) ?_
 refine Ni ?_
 refine Ws ?_
 refine Sq ?_
 refine Rg 11 ?_
 refine Olg (.agg (Box.cells r1)) zbf ?_
 obtain ⟨r3,hr3,hM⟩:=zak hM
 refine zaB (bs:=[.agg (Box.cells r1)]) (by decide) rfl rfl ((zfz hr3).le (.k .nil)) ?_
 refine Om (.tup [.i r3.1,.i r3.2.1,.i r3.2.2.1,.i r3.2.2.2]) ?_
 refine Ox (.i r3.1) ?_
 refine Ox (.i r3.2.1) ?_
 refine Ox (.i r3.2.2.1) ?_
 refine Ox (.i r3.2.2.2) ?_
 refine Oa (.i r3.1) ?_
 refine Oa (.i r3.2.1) ?_
 refine Oa (.i r3.2.2.1) ?_
 refine Oa (.i r3.2.2.2) ?_
 refine Ni ?_
 refine Ws ?_
 refine Sq ?_
 refine Rg 7 ?_
 refine Olg (.agg (Box.cells r1)) zbf ?_
 obtain ⟨r4,hr4,hM⟩:=zak hM
 refine zaB (bs:=[.agg (Box.cells r1)]) (by decide) rfl rfl ((zem hr4).le (.k .nil)) ?_
 refine Om (.tup [.i r4.1,.i r4.2]) ?_
 refine Ox (.i r4.1) ?_
 refine Ox (.i r4.2) ?_
 refine Oa (.i r4.1) ?_
 refine Oa (.i r4.2) ?_
 refine Ni ?_
 refine Ws ?_
 refine Sq ?_
 refine Rg 7 ?_
 refine Olg (.agg (Box.cells r1)) zbf ?_
 obtain ⟨r5,hr5,hM⟩:=zak hM
 refine zaB (bs:=[.agg (Box.cells r1)]) (by decide) rfl rfl ((zjN hr5).le (.k .nil)) ?_
 refine Om (.tup [.i r5.1,.i r5.2]) ?_
 refine Ox (.i r5.1) ?_
 refine Ox (.i r5.2) ?_
 refine Oa (.i r5.1) ?_
 refine Oa (.i r5.2) ?_
 refine Ni ?_
 refine Ws ?_
 refine zbi (J:=Bool) (fun j=>[(0,.b j)]) (fun j H' g'=>St (·<g) H0 [] H' g'/\zbk j=some r) ?_ ?_
 ·rintro v6 H g1 ⟨hS,hM⟩
  change wpA _ _ _ _ (Fr.of [(0,.b v6)]) _ _
  replace hS:St (·<g) H0 [] H g1:=hS
  replace hM:zbk v6=some r:=hM
  refine zaT ?_
  refine za5 (x:=.b v6) (f:=fun r=>.b r) (.inr rfl) ?_ (.refl _) (Option.some.inj hM) hS
  exact (zay (zae (x:=.b v6) rfl))
 ·refine Rg 36 ?_
  refine Om (.i r2.2) ?_
  refine Oi (.b (r2.2==0)) ?_
  refine Om (.b (r2.2==0)) ?_
  rcases bft (r2.2==0) with hb7 | hb7
  ·replace hM:=ifT hM hb7
   refine Oy (want:=true) hb7 ?_
   refine Om (.i r3.2.2.2) ?_
   refine Oy (want:=true) hb7 ?_
   refine Oi (.b (r3.2.2.2==0)) ?_
   refine Pt (.b (r3.2.2.2==0)) hb7 ?_
   refine Om (.b (r3.2.2.2==0)) ?_
   rcases bft (r3.2.2.2==0) with hb8 | hb8
   ·replace hM:=ifT hM hb8
    refine Oy (want:=true) hb8 ?_
    refine Om (.i r4.2) ?_
    refine Oy (want:=true) hb8 ?_
    refine Oi (.b (r4.2==0)) ?_
    refine Pt (.b (r4.2==0)) hb8 ?_
    refine Om (.b (r4.2==0)) ?_
    rcases bft (r4.2==0) with hb9 | hb9
    ·replace hM:=ifT hM hb9
     refine Oy (want:=true) hb9 ?_
     refine Om (.i r5.2) ?_
     refine Oy (want:=true) hb9 ?_
     refine Oi (.b (r5.2==0)) ?_
     refine Pt (.b (r5.2==0)) hb9 ?_
     refine Om (.b (r5.2==0)) ?_
     rcases bft (r5.2==0) with hb10 | hb10
     ·replace hM:=ifT hM hb10
      refine Oy (want:=true) hb10 ?_
      refine Om (.sl .no 1 (r2.1.map cI)) ?_
      refine Oy (want:=true) hb10 ?_
      refine za2 (es:=[[.i 3],[.i 4],[.i 5]]) hS (by decide) zaw zb1 rfl zbU rfl (by decide) (by omega) fun H hS=>?_
      refine Oy (want:=true) hb10 ?_
      obtain ⟨r11,hr11,hM⟩:=zak hM
      refine zaB (bs:=[.sl .no 1 (r2.1.map cI),.sl (.id (g+1+3+7+11+7+7+16)) 1 (([3,4,5]:List Int).map cI)]) (by decide) rfl rfl ((zf8 hr11).le (.k (.cons (.sl _ _ _) .nil))) ?_
      refine Pt (.b r11) hb10 ?_
      refine Om (.b r11) ?_
      rcases bft r11 with hb12 | hb12
      ·replace hM:=ifT hM hb12
       refine Oy (want:=true) hb12 ?_
       refine Om (.i r3.1) ?_
       refine Oy (want:=true) hb12 ?_
       refine Oi (.b (r3.1==35)) ?_
       refine Pt (.b (r3.1==35)) hb12 ?_
       refine Om (.b (r3.1==35)) ?_
       rcases bft (r3.1==35) with hb13 | hb13
       ·replace hM:=ifT hM hb13
        refine Oy (want:=true) hb13 ?_
        refine Om (.i r3.2.1) ?_
        refine Oy (want:=true) hb13 ?_
        refine Oi (.b (r3.2.1==10)) ?_
        refine Pt (.b (r3.2.1==10)) hb13 ?_
        refine Om (.b (r3.2.1==10)) ?_
        rcases bft (r3.2.1==10) with hb14 | hb14
        ·replace hM:=ifT hM hb14
         refine Oy (want:=true) hb14 ?_
         refine Om (.i r4.1) ?_
         refine Oy (want:=true) hb14 ?_
         refine Oi (.b (r4.1==5)) ?_
         refine Pt (.b (r4.1==5)) hb14 ?_
         refine Om (.b (r4.1==5)) ?_
         rcases bft (r4.1==5) with hb15 | hb15
         ·replace hM:=ifT hM hb15
          refine Oy (want:=true) hb15 ?_
          refine Om (.i r5.1) ?_
          refine Oy (want:=true) hb15 ?_
          refine Oi (.b (r5.1==1)) ?_
          refine Pt (.b (r5.1==1)) hb15 ?_
          refine Oa (.b (r5.1==1)) ?_
          refine Ni ?_
          exact zao (r5.1==1) (.k .nil) ⟨(hS.keep [false] rfl).up (by omega),hM⟩
         ·replace hM:=ifF hM hb15
          refine On (want:=true) hb15 ?_
          refine On (want:=true) hb15 ?_
          refine Pf (.b false) hb15 ?_
          refine Oa (.b false) ?_
          refine Ni ?_
          exact zao false (.k .nil) ⟨(hS.keep [false] rfl).up (by omega),hM⟩
        ·replace hM:=ifF hM hb14
         refine On (want:=true) hb14 ?_
         refine On (want:=true) hb14 ?_
         refine Pf (.b false) hb14 ?_
         refine Om (.b false) ?_
         refine Og ?_
         refine Og ?_
         refine zaG (v:=.b false) (e:=false) (by decide) rfl rfl rfl ?_
         refine Oa (.b false) ?_
         refine Ni ?_
         exact zao false (.k .nil) ⟨(hS.keep [false] rfl).up (by omega),hM⟩
       ·replace hM:=ifF hM hb13
        refine On (want:=true) hb13 ?_
        refine On (want:=true) hb13 ?_
        refine Pf (.b false) hb13 ?_
        refine Om (.b false) ?_
        refine Og ?_
        refine Og ?_
        refine zaG (v:=.b false) (e:=false) (by decide) rfl rfl rfl ?_
        refine Om (.b false) ?_
        refine Og ?_
        refine Og ?_
        refine zaG (v:=.b false) (e:=false) (by decide) rfl rfl rfl ?_
        refine Oa (.b false) ?_
        refine Ni ?_
        exact zao false (.k .nil) ⟨(hS.keep [false] rfl).up (by omega),hM⟩
      ·replace hM:=ifF hM hb12
       refine On (want:=true) hb12 ?_
       refine On (want:=true) hb12 ?_
       refine Pf (.b false) hb12 ?_
       refine Om (.b false) ?_
       refine Og ?_
       refine Og ?_
       refine zaG (v:=.b false) (e:=false) (by decide) rfl rfl rfl ?_
       refine Om (.b false) ?_
       refine Og ?_
       refine Og ?_
       refine zaG (v:=.b false) (e:=false) (by decide) rfl rfl rfl ?_
       refine Om (.b false) ?_
       refine Og ?_
       refine Og ?_
       refine zaG (v:=.b false) (e:=false) (by decide) rfl rfl rfl ?_
       refine Oa (.b false) ?_
       refine Ni ?_
       exact zao false (.k .nil) ⟨(hS.keep [false] rfl).up (by omega),hM⟩
     ·replace hM:=ifF hM hb10
      refine On (want:=true) hb10 ?_
      refine On (want:=true) hb10 ?_
      refine On (want:=true) hb10 ?_
      refine Pf (.b false) hb10 ?_
      refine Om (.b false) ?_
      refine Og ?_
      refine Og ?_
      refine zaG (v:=.b false) (e:=false) (by decide) rfl rfl rfl ?_
      refine Om (.b false) ?_
      refine Og ?_
      refine Og ?_
      refine zaG (v:=.b false) (e:=false) (by decide) rfl rfl rfl ?_
      refine Om (.b false) ?_
      refine Og ?_
      refine Og ?_
      refine zaG (v:=.b false) (e:=false) (by decide) rfl rfl rfl ?_
      refine Om (.b false) ?_
      refine Og ?_
      refine Og ?_
      refine zaG (v:=.b false) (e:=false) (by decide) rfl rfl rfl ?_
      refine Oa (.b false) ?_
      refine Ni ?_
      exact zao false (.k .nil) ⟨(hS.keep [] rfl).up (by omega),hM⟩
    ·replace hM:=ifF hM hb9
     refine On (want:=true) hb9 ?_
     refine On (want:=true) hb9 ?_
     refine Pf (.b false) hb9 ?_
     refine Om (.b false) ?_
     refine Og ?_
     refine Og ?_
     refine Og ?_
     refine zaG (v:=.b false) (e:=false) (by decide) rfl rfl rfl ?_
     refine Om (.b false) ?_
     refine Og ?_
     refine Og ?_
     refine zaG (v:=.b false) (e:=false) (by decide) rfl rfl rfl ?_
     refine Om (.b false) ?_
     refine Og ?_
     refine Og ?_
     refine zaG (v:=.b false) (e:=false) (by decide) rfl rfl rfl ?_
     refine Om (.b false) ?_
     refine Og ?_
     refine Og ?_
     refine zaG (v:=.b false) (e:=false) (by decide) rfl rfl rfl ?_
     refine Om (.b false) ?_
     refine Og ?_
     refine Og ?_
     refine zaG (v:=.b false) (e:=false) (by decide) rfl rfl rfl ?_
     refine Oa (.b false) ?_
     refine Ni ?_
     exact zao false (.k .nil) ⟨(hS.keep [] rfl).up (by omega),hM⟩
   ·replace hM:=ifF hM hb8
    refine On (want:=true) hb8 ?_
    refine On (want:=true) hb8 ?_
    refine Pf (.b false) hb8 ?_
    refine Om (.b false) ?_
    refine Og ?_
    refine Og ?_
    refine zaG (v:=.b false) (e:=false) (by decide) rfl rfl rfl ?_
    refine Om (.b false) ?_
    refine Og ?_
    refine Og ?_
    refine Og ?_
    refine zaG (v:=.b false) (e:=false) (by decide) rfl rfl rfl ?_
    refine Om (.b false) ?_
    refine Og ?_
    refine Og ?_
    refine zaG (v:=.b false) (e:=false) (by decide) rfl rfl rfl ?_
    refine Om (.b false) ?_
    refine Og ?_
    refine Og ?_
    refine zaG (v:=.b false) (e:=false) (by decide) rfl rfl rfl ?_
    refine Om (.b false) ?_
    refine Og ?_
    refine Og ?_
    refine zaG (v:=.b false) (e:=false) (by decide) rfl rfl rfl ?_
    refine Om (.b false) ?_
    refine Og ?_
    refine Og ?_
    refine zaG (v:=.b false) (e:=false) (by decide) rfl rfl rfl ?_
    refine Oa (.b false) ?_
    refine Ni ?_
    exact zao false (.k .nil) ⟨(hS.keep [] rfl).up (by omega),hM⟩
  ·replace hM:=ifF hM hb7
   refine On (want:=true) hb7 ?_
   refine On (want:=true) hb7 ?_
   refine Pf (.b false) hb7 ?_
   refine Om (.b false) ?_
   refine Og ?_
   refine Og ?_
   refine zaG (v:=.b false) (e:=false) (by decide) rfl rfl rfl ?_
   refine Om (.b false) ?_
   refine Og ?_
   refine Og ?_
   refine zaG (v:=.b false) (e:=false) (by decide) rfl rfl rfl ?_
   refine Om (.b false) ?_
   refine Og ?_
   refine Og ?_
   refine Og ?_
   refine zaG (v:=.b false) (e:=false) (by decide) rfl rfl rfl ?_
   refine Om (.b false) ?_
   refine Og ?_
   refine Og ?_
   refine zaG (v:=.b false) (e:=false) (by decide) rfl rfl rfl ?_
   refine Om (.b false) ?_
   refine Og ?_
   refine Og ?_
   refine zaG (v:=.b false) (e:=false) (by decide) rfl rfl rfl ?_
   refine Om (.b false) ?_
   refine Og ?_
   refine Og ?_
   refine zaG (v:=.b false) (e:=false) (by decide) rfl rfl rfl ?_
   refine Om (.b false) ?_
   refine Og ?_
   refine Og ?_
   refine zaG (v:=.b false) (e:=false) (by decide) rfl rfl rfl ?_
   refine Oa (.b false) ?_
   refine Ni ?_
   exact zao false (.k .nil) ⟨(hS.keep [] rfl).up (by omega),hM⟩
theorem zlh {a0:Wheel} {r:Wheel} (hM:zgO a0=some r):zrl Try.prog 59 [.agg (Wheel.cells a0)] [(some ((.int .i64 r.Round))),none,none] [(3,1,r.Notches.map cI),(3,1,r.Coins.map cI)]:=by
 refine zkz mixed Try.func59 rfl (by decide) Try.ntmps59 (by simp) (zd2 (zeN (fun x=>(zdJ ze9))) (zd2 (zeN (fun x=>(zdJ ze9))) znH)) fun H0 g hf=>?_
 rw [zaj]
 change wpA _ _ _ _ (Fr.of [(0,.agg (Wheel.cells a0))]) H0 g
 have hS:=St.start hf
 refine Sq ?_
 refine Rg 2 ?_
 refine zcW (v:=.agg (Wheel.cells a0)) (cs:=(Wheel.cells a0)) hS (by decide) rfl rfl (by omega) fun H hS=>?_
 refine zbY hS (by decide) zhF (by omega) fun H hS=>?_
 refine Ni ?_
 refine zbN (L':=[(g+1,.cells [.i 0,.sl .nil 0 [],.sl .nil 0 []])]) 1 1 hS rfl rfl rfl fun H hS=>?_
 refine Ws ?_
 refine Sq ?_
 have hS0:=hS
 refine zc3 (n:=12) rfl (by kernel_rfl) ?_
 refine Of ((Wheel.cells a0)) zdd ?_
 refine Olp (.i a0.Round) zag zav ?_
 refine za2 (es:=[]) hS (by decide) zaw zb1 rfl zbU rfl (by decide) (by omega) fun H hS=>?_
 refine Of ((Wheel.cells a0)) zfI ?_
 refine Olp (.sl .no 1 (a0.Notches.map cI)) zan zaE ?_
 obtain ⟨l1,hl1,hM⟩:=zak hM
 refine zeQ (xs:=([]:List Int)) (ys:=a0.Notches) (zs:=l1) (f:=cI) (L':=[(g+2+2,.row 3 l1.length),(g+1,.cells [.i 0,.sl .nil 0 [],.sl .nil 0 []])]) 0 hS (by decide) rfl rfl rfl rfl (.behind (by kernel_rfl)) zaw zb1 zbU hl1 rfl fun H hS=>?_
 refine za2 (es:=[]) hS (by decide) zaw zb1 rfl zbU rfl (by decide) (by omega) fun H hS=>?_
 refine Of ((Wheel.cells a0)) zb9 ?_
 refine Olp (.sl .no 1 (a0.Coins.map cI)) zan zaE ?_
 obtain ⟨l2,hl2,hM⟩:=zak hM
 refine zeQ (xs:=([]:List Int)) (ys:=a0.Coins) (zs:=l2) (f:=cI) (L':=[(g+2+6,.row 3 l2.length),(g+2+2,.row 3 l1.length),(g+1,.cells [.i 0,.sl .nil 0 [],.sl .nil 0 []])]) 0 hS (by decide) rfl rfl rfl rfl (.behind (by kernel_rfl)) zaw zb1 zbU hl2 rfl fun H hS=>?_
 refine zbZ (cs:=[.i a0.Round,.sl (.id (g+2+2)) 1 (l1.map cI),.sl (.id (g+2+6)) 1 (l2.map cI)]) (by decide) zhF zpZ rfl ?_
 refine zaU (v:=.agg [.i a0.Round,.sl (.id (g+2+2)) 1 (l1.map cI),.sl (.id (g+2+6)) 1 (l2.map cI)]) (ns:=[.i a0.Round,.sl (.id (g+2+2)) 1 (l1.map cI),.sl (.id (g+2+6)) 1 (l2.map cI)]) (L':=[(g+2+6,.row 3 l2.length),(g+2+2,.row 3 l1.length),(g+1,.cells [.i a0.Round,.sl (.id (g+2+2)) 1 (l1.map cI),.sl (.id (g+2+6)) 1 (l2.map cI)])]) 2 hS rfl rfl (.st hS0 0 rfl (by omega)) rfl rfl zk9 nlb rfl fun H hS=>?_
 refine Ni ?_
 refine zfk [(2,.ptr (g+1) 0)] (.k .nil) ?_
 refine zaT ?_
 obtain rfl:=Option.some.inj hM
 refine zrY (tm:=[(some ((.int .i64 a0.Round))),none,none]) (ds:=[(3,1,l1.map cI),(3,1,l2.map cI)]) (x:=.agg [.i a0.Round,.sl (.id (g+2+2)) 1 (l1.map cI),.sl (.id (g+2+6)) 1 (l2.map cI)]) [g+2+2,g+2+6] [1,0] (.inr rfl) ?_ rfl hS (.cons rfl (by simp) (.cons rfl (by simp) .nil)) (by decide)
 exact (zay (zdh (x:=.agg [.i a0.Round,.sl (.id (g+2+2)) 1 (l1.map cI),.sl (.id (g+2+6)) 1 (l2.map cI)]) 2 hS rfl rfl (pg zcH)))
theorem zli {a0:Box} {r:Box} (hM:zgP a0=some r):zrl Try.prog 17 [.agg (Box.cells a0)] [(some ((.int .i64 r.Wheel.Round))),none,none,none,none,none,(some ((.int .i64 r.Plays))),(some ((.int .i64 r.Skips)))] [(3,1,r.Wheel.Notches.map cI),(3,1,r.Wheel.Coins.map cI),(3,1,r.Found.map cI),(3,1,r.Marked.map cI),(3,1,r.Slugs.map cI)]:=by
 refine zkz mixed Try.func17 rfl (by decide) Try.ntmps17 (by simp) (zd2 (zeN (fun x=>(zdJ ze9))) (zd2 (zeN (fun x=>(zdJ ze9))) (zd2 (zeN (fun x=>(zdJ ze9))) (zd2 (zeN (fun x=>(zdJ ze9))) (zd2 (zeN (fun x=>(zdJ ze9))) znH))))) fun H0 g hf=>?_
 rw [zaj]
 change wpA _ _ _ _ (Fr.of [(0,.agg (Box.cells a0))]) H0 g
 have hS:=St.start hf
 refine Sq ?_
 refine Rg 2 ?_
 refine zcW (v:=.agg (Box.cells a0)) (cs:=(Box.cells a0)) hS (by decide) rfl rfl (by omega) fun H hS=>?_
 refine zbY hS (by decide) zfG (by omega) fun H hS=>?_
 refine Ni ?_
 refine zbN (L':=[(g+1,.cells [.i 0,.sl .nil 0 [],.sl .nil 0 [],.sl .nil 0 [],.sl .nil 0 [],.sl .nil 0 [],.i 0,.i 0])]) 1 1 hS rfl rfl rfl fun H hS=>?_
 refine Ws ?_
 refine Sq ?_
 refine Rg 3 ?_
 refine Olg (.agg (Box.cells a0)) zbf ?_
 refine zbY hS (by decide) zfG (by omega) fun H hS=>?_
 refine zaU (v:=.agg (Box.cells a0)) (ns:=(Box.cells a0)) (L':=[(g+2+1,.cells (Box.cells a0)),(g+1,.cells [.i 0,.sl .nil 0 [],.sl .nil 0 [],.sl .nil 0 [],.sl .nil 0 [],.sl .nil 0 [],.i 0,.i 0])]) 0 hS rfl rfl .no rfl rfl zhG nlb rfl fun H hS=>?_
 refine Ni ?_
 refine Ws ?_
 refine Sq ?_
 refine Rg 5 ?_
 refine Of ((Box.cells a0)) zbI ?_
 refine Olg (.agg (Wheel.cells a0.Wheel)) zcH ?_
 obtain ⟨r1,hr1,hM⟩:=zak hM
 refine zwl (tm:=[(some ((.int .i64 r1.Round))),none,none]) (rs:=[(3,1,r1.Notches.map cI),(3,1,r1.Coins.map cI)]) (bs:=[.agg (Wheel.cells a0.Wheel)]) (.inl rfl) hS (by decide) rfl rfl ((zlh hr1).le (.k .nil)) (zac (.agg _ (zac (.v _) (zac (.sl _ _ (zat (fun x=>(zac (.v _) zaD)))) (zac (.sl _ _ (zat (fun x=>(zac (.v _) zaD)))) zaD)))) zaD) (zd2 (zeN (fun x=>(zdJ ze9))) (zd2 (zeN (fun x=>(zdJ ze9))) znH)) rfl [.row,.row] rfl 2 rfl (by omega) fun H hS hU=>?_
 replace hS:St (·<g) H0 [(g+2+3+5,.row 3 (r1.Notches.map cI).length),(g+2+3+5+1,.row 3 (r1.Coins.map cI).length),(g+2+1,.cells (Box.cells a0)),(g+1,.cells [.i 0,.sl .nil 0 [],.sl .nil 0 [],.sl .nil 0 [],.sl .nil 0 [],.sl .nil 0 [],.i 0,.i 0])] _ _:=hS
 change zaL _ _ _ _ _ _ _ _ (Fr.of ((7,.agg [.i r1.Round,.sl (.id (g+2+3+5)) 1 (r1.Notches.map cI),.sl (.id (g+2+3+5+1)) 1 (r1.Coins.map cI)])::_)) _ _
 refine zaC (by decide) zbI rfl ?_
 refine zaU (v:=.agg [.i r1.Round,.sl (.id (g+2+3+5)) 1 (r1.Notches.map cI),.sl (.id (g+2+3+5+1)) 1 (r1.Coins.map cI)]) (ns:=[.i r1.Round,.sl (.id (g+2+3+5)) 1 (r1.Notches.map cI),.sl (.id (g+2+3+5+1)) 1 (r1.Coins.map cI)]) (L':=[(g+2+3+5,.row 3 (r1.Notches.map cI).length),(g+2+3+5+1,.row 3 (r1.Coins.map cI).length),(g+2+1,.cells [.i r1.Round,.sl (.id (g+2+3+5)) 1 (r1.Notches.map cI),.sl (.id (g+2+3+5+1)) 1 (r1.Coins.map cI),.sl .no 1 (a0.Found.map cI),.sl .no 1 (a0.Marked.map cI),.sl .no 1 (a0.Slugs.map cI),.i a0.Plays,.i a0.Skips]),(g+1,.cells [.i 0,.sl .nil 0 [],.sl .nil 0 [],.sl .nil 0 [],.sl .nil 0 [],.sl .nil 0 [],.i 0,.i 0])]) 2 hS rfl rfl .no rfl rfl zk9 nlb rfl fun H hS=>?_
 refine Ni ?_
 refine Ws ?_
 refine Sq ?_
 have hS0:=hS
 refine zc3 (n:=18) rfl (by kernel_rfl) ?_
 refine za2 (es:=[]) hS (by decide) zaw zb1 rfl zbU rfl (by decide) (by omega) fun H hS=>?_
 refine Of ((Box.cells a0)) zbV ?_
 refine Olp (.sl .no 1 (a0.Found.map cI)) zan zaE ?_
 obtain ⟨l2,hl2,hM⟩:=zak hM
 refine zeQ (xs:=([]:List Int)) (ys:=a0.Found) (zs:=l2) (f:=cI) (L':=[(g+2+3+5+2+0,.row 3 l2.length),(g+2+3+5,.row 3 (r1.Notches.map cI).length),(g+2+3+5+1,.row 3 (r1.Coins.map cI).length),(g+2+1,.cells [.i r1.Round,.sl (.id (g+2+3+5)) 1 (r1.Notches.map cI),.sl (.id (g+2+3+5+1)) 1 (r1.Coins.map cI),.sl .no 1 (a0.Found.map cI),.sl .no 1 (a0.Marked.map cI),.sl .no 1 (a0.Slugs.map cI),.i a0.Plays,.i a0.Skips]),(g+1,.cells [.i 0,.sl .nil 0 [],.sl .nil 0 [],.sl .nil 0 [],.sl .nil 0 [],.sl .nil 0 [],.i 0,.i 0])]) 0 hS (by decide) rfl rfl rfl rfl (.behind (by kernel_rfl)) zaw zb1 zbU hl2 rfl fun H hS=>?_
 refine za2 (es:=[]) hS (by decide) zaw zb1 rfl zbU rfl (by decide) (by omega) fun H hS=>?_
 refine Of ((Box.cells a0)) zdw ?_
 refine Olp (.sl .no 1 (a0.Marked.map cI)) zan zaE ?_
 obtain ⟨l3,hl3,hM⟩:=zak hM
 refine zeQ (xs:=([]:List Int)) (ys:=a0.Marked) (zs:=l3) (f:=cI) (L':=[(g+2+3+5+2+4,.row 3 l3.length),(g+2+3+5+2+0,.row 3 l2.length),(g+2+3+5,.row 3 (r1.Notches.map cI).length),(g+2+3+5+1,.row 3 (r1.Coins.map cI).length),(g+2+1,.cells [.i r1.Round,.sl (.id (g+2+3+5)) 1 (r1.Notches.map cI),.sl (.id (g+2+3+5+1)) 1 (r1.Coins.map cI),.sl .no 1 (a0.Found.map cI),.sl .no 1 (a0.Marked.map cI),.sl .no 1 (a0.Slugs.map cI),.i a0.Plays,.i a0.Skips]),(g+1,.cells [.i 0,.sl .nil 0 [],.sl .nil 0 [],.sl .nil 0 [],.sl .nil 0 [],.sl .nil 0 [],.i 0,.i 0])]) 0 hS (by decide) rfl rfl rfl rfl (.behind (by kernel_rfl)) zaw zb1 zbU hl3 rfl fun H hS=>?_
 refine za2 (es:=[]) hS (by decide) zaw zb1 rfl zbU rfl (by decide) (by omega) fun H hS=>?_
 refine Of ((Box.cells a0)) zdx ?_
 refine Olp (.sl .no 1 (a0.Slugs.map cI)) zan zaE ?_
 obtain ⟨l4,hl4,hM⟩:=zak hM
 refine zeQ (xs:=([]:List Int)) (ys:=a0.Slugs) (zs:=l4) (f:=cI) (L':=[(g+2+3+5+2+8,.row 3 l4.length),(g+2+3+5+2+4,.row 3 l3.length),(g+2+3+5+2+0,.row 3 l2.length),(g+2+3+5,.row 3 (r1.Notches.map cI).length),(g+2+3+5+1,.row 3 (r1.Coins.map cI).length),(g+2+1,.cells [.i r1.Round,.sl (.id (g+2+3+5)) 1 (r1.Notches.map cI),.sl (.id (g+2+3+5+1)) 1 (r1.Coins.map cI),.sl .no 1 (a0.Found.map cI),.sl .no 1 (a0.Marked.map cI),.sl .no 1 (a0.Slugs.map cI),.i a0.Plays,.i a0.Skips]),(g+1,.cells [.i 0,.sl .nil 0 [],.sl .nil 0 [],.sl .nil 0 [],.sl .nil 0 [],.sl .nil 0 [],.i 0,.i 0])]) 0 hS (by decide) rfl rfl rfl rfl (.behind (by kernel_rfl)) zaw zb1 zbU hl4 rfl fun H hS=>?_
 refine zaC (by decide) zbV rfl ?_
 refine zaU (v:=.sl (.id (g+2+3+5+2+0)) 1 (l2.map cI)) (ns:=[.sl (.id (g+2+3+5+2+0)) 1 (l2.map cI)]) (L':=[(g+2+3+5+2+8,.row 3 l4.length),(g+2+3+5+2+4,.row 3 l3.length),(g+2+3+5+2+0,.row 3 l2.length),(g+2+3+5,.row 3 (r1.Notches.map cI).length),(g+2+3+5+1,.row 3 (r1.Coins.map cI).length),(g+2+1,.cells [.i r1.Round,.sl (.id (g+2+3+5)) 1 (r1.Notches.map cI),.sl (.id (g+2+3+5+1)) 1 (r1.Coins.map cI),.sl (.id (g+2+3+5+2+0)) 1 (l2.map cI),.sl .no 1 (a0.Marked.map cI),.sl .no 1 (a0.Slugs.map cI),.i a0.Plays,.i a0.Skips]),(g+1,.cells [.i 0,.sl .nil 0 [],.sl .nil 0 [],.sl .nil 0 [],.sl .nil 0 [],.sl .nil 0 [],.i 0,.i 0])]) 5 hS rfl rfl (.st hS0 2 rfl (by omega)) rfl rfl zk8 nlb rfl fun H hS=>?_
 refine zaC (by decide) zdw rfl ?_
 refine zaU (v:=.sl (.id (g+2+3+5+2+4)) 1 (l3.map cI)) (ns:=[.sl (.id (g+2+3+5+2+4)) 1 (l3.map cI)]) (L':=[(g+2+3+5+2+8,.row 3 l4.length),(g+2+3+5+2+4,.row 3 l3.length),(g+2+3+5+2+0,.row 3 l2.length),(g+2+3+5,.row 3 (r1.Notches.map cI).length),(g+2+3+5+1,.row 3 (r1.Coins.map cI).length),(g+2+1,.cells [.i r1.Round,.sl (.id (g+2+3+5)) 1 (r1.Notches.map cI),.sl (.id (g+2+3+5+1)) 1 (r1.Coins.map cI),.sl (.id (g+2+3+5+2+0)) 1 (l2.map cI),.sl (.id (g+2+3+5+2+4)) 1 (l3.map cI),.sl .no 1 (a0.Slugs.map cI),.i a0.Plays,.i a0.Skips]),(g+1,.cells [.i 0,.sl .nil 0 [],.sl .nil 0 [],.sl .nil 0 [],.sl .nil 0 [],.sl .nil 0 [],.i 0,.i 0])]) 5 hS rfl rfl (.st hS0 2 rfl (by omega)) rfl rfl zk8 nlb rfl fun H hS=>?_
 refine zaC (by decide) zdx rfl ?_
 refine zaU (v:=.sl (.id (g+2+3+5+2+8)) 1 (l4.map cI)) (ns:=[.sl (.id (g+2+3+5+2+8)) 1 (l4.map cI)]) (L':=[(g+2+3+5+2+8,.row 3 l4.length),(g+2+3+5+2+4,.row 3 l3.length),(g+2+3+5+2+0,.row 3 l2.length),(g+2+3+5,.row 3 (r1.Notches.map cI).length),(g+2+3+5+1,.row 3 (r1.Coins.map cI).length),(g+2+1,.cells [.i r1.Round,.sl (.id (g+2+3+5)) 1 (r1.Notches.map cI),.sl (.id (g+2+3+5+1)) 1 (r1.Coins.map cI),.sl (.id (g+2+3+5+2+0)) 1 (l2.map cI),.sl (.id (g+2+3+5+2+4)) 1 (l3.map cI),.sl (.id (g+2+3+5+2+8)) 1 (l4.map cI),.i a0.Plays,.i a0.Skips]),(g+1,.cells [.i 0,.sl .nil 0 [],.sl .nil 0 [],.sl .nil 0 [],.sl .nil 0 [],.sl .nil 0 [],.i 0,.i 0])]) 5 hS rfl rfl (.st hS0 2 rfl (by omega)) rfl rfl zk8 nlb rfl fun H hS=>?_
 refine Ni ?_
 refine Ws ?_
 refine Sq ?_
 refine Rg 2 ?_
 refine zaR (v:=.agg [.i r1.Round,.sl (.id (g+2+3+5)) 1 (r1.Notches.map cI),.sl (.id (g+2+3+5+1)) 1 (r1.Coins.map cI),.sl (.id (g+2+3+5+2+0)) 1 (l2.map cI),.sl (.id (g+2+3+5+2+4)) 1 (l3.map cI),.sl (.id (g+2+3+5+2+8)) 1 (l4.map cI),.i a0.Plays,.i a0.Skips]) 5 hS (by decide) rfl rfl .no (pg zbf) ?_
 refine zaU (v:=.agg [.i r1.Round,.sl (.id (g+2+3+5)) 1 (r1.Notches.map cI),.sl (.id (g+2+3+5+1)) 1 (r1.Coins.map cI),.sl (.id (g+2+3+5+2+0)) 1 (l2.map cI),.sl (.id (g+2+3+5+2+4)) 1 (l3.map cI),.sl (.id (g+2+3+5+2+8)) 1 (l4.map cI),.i a0.Plays,.i a0.Skips]) (ns:=[.i r1.Round,.sl (.id (g+2+3+5)) 1 (r1.Notches.map cI),.sl (.id (g+2+3+5+1)) 1 (r1.Coins.map cI),.sl (.id (g+2+3+5+2+0)) 1 (l2.map cI),.sl (.id (g+2+3+5+2+4)) 1 (l3.map cI),.sl (.id (g+2+3+5+2+8)) 1 (l4.map cI),.i a0.Plays,.i a0.Skips]) (L':=[(g+2+3+5+2+8,.row 3 l4.length),(g+2+3+5+2+4,.row 3 l3.length),(g+2+3+5+2+0,.row 3 l2.length),(g+2+3+5,.row 3 (r1.Notches.map cI).length),(g+2+3+5+1,.row 3 (r1.Coins.map cI).length),(g+2+1,.cells [.i r1.Round,.sl (.id (g+2+3+5)) 1 (r1.Notches.map cI),.sl (.id (g+2+3+5+1)) 1 (r1.Coins.map cI),.sl (.id (g+2+3+5+2+0)) 1 (l2.map cI),.sl (.id (g+2+3+5+2+4)) 1 (l3.map cI),.sl (.id (g+2+3+5+2+8)) 1 (l4.map cI),.i a0.Plays,.i a0.Skips]),(g+1,.cells [.i r1.Round,.sl (.id (g+2+3+5)) 1 (r1.Notches.map cI),.sl (.id (g+2+3+5+1)) 1 (r1.Coins.map cI),.sl (.id (g+2+3+5+2+0)) 1 (l2.map cI),.sl (.id (g+2+3+5+2+4)) 1 (l3.map cI),.sl (.id (g+2+3+5+2+8)) 1 (l4.map cI),.i a0.Plays,.i a0.Skips])]) 6 hS rfl rfl .no rfl rfl zhG nlb rfl fun H hS=>?_
 refine Ni ?_
 replace hS:=hS.keep (L':=[(g+2+3+5+2+8,.row 3 l4.length),(g+2+3+5+2+4,.row 3 l3.length),(g+2+3+5+2+0,.row 3 l2.length),(g+2+3+5,.row 3 (r1.Notches.map cI).length),(g+2+3+5+1,.row 3 (r1.Coins.map cI).length),(g+1,.cells [.i r1.Round,.sl (.id (g+2+3+5)) 1 (r1.Notches.map cI),.sl (.id (g+2+3+5+1)) 1 (r1.Coins.map cI),.sl (.id (g+2+3+5+2+0)) 1 (l2.map cI),.sl (.id (g+2+3+5+2+4)) 1 (l3.map cI),.sl (.id (g+2+3+5+2+8)) 1 (l4.map cI),.i a0.Plays,.i a0.Skips])]) [true,true,true,true,true,false,true] rfl
 refine Ws ?_
 refine zaT ?_
 obtain rfl:=Option.some.inj hM
 refine zrY (tm:=[(some ((.int .i64 r1.Round))),none,none,none,none,none,(some ((.int .i64 a0.Plays))),(some ((.int .i64 a0.Skips)))]) (ds:=[(3,1,r1.Notches.map cI),(3,1,r1.Coins.map cI),(3,1,l2.map cI),(3,1,l3.map cI),(3,1,l4.map cI)]) (x:=.agg [.i r1.Round,.sl (.id (g+2+3+5)) 1 (r1.Notches.map cI),.sl (.id (g+2+3+5+1)) 1 (r1.Coins.map cI),.sl (.id (g+2+3+5+2+0)) 1 (l2.map cI),.sl (.id (g+2+3+5+2+4)) 1 (l3.map cI),.sl (.id (g+2+3+5+2+8)) 1 (l4.map cI),.i a0.Plays,.i a0.Skips]) [g+2+3+5,g+2+3+5+1,g+2+3+5+2+0,g+2+3+5+2+4,g+2+3+5+2+8] [3,4,2,1,0] (.inr rfl) ?_ rfl hS (.cons rfl (by simp) (.cons rfl (by simp) (.cons rfl (by simp) (.cons rfl (by simp) (.cons rfl (by simp) .nil))))) (by decide)
 exact (zay (zdh (x:=.agg [.i r1.Round,.sl (.id (g+2+3+5)) 1 (r1.Notches.map cI),.sl (.id (g+2+3+5+1)) 1 (r1.Coins.map cI),.sl (.id (g+2+3+5+2+0)) 1 (l2.map cI),.sl (.id (g+2+3+5+2+4)) 1 (l3.map cI),.sl (.id (g+2+3+5+2+8)) 1 (l4.map cI),.i a0.Plays,.i a0.Skips]) 5 hS rfl rfl (pg zbf)))
theorem zhX {n:Nat} {a0:Wheel} {a1:List Int} {r:Int} (hM:zeL n a0 a1=some r):zaJ Try.prog 23 [.agg (Wheel.cells a0),.sl .no 1 (a1.map cI)] (.i r):=by
 refine zap mixed Try.func23 rfl (by decide) Try.ntmps23 (by simp) ?pure fun H0 g hf=>?_
 case pure=>exact .v _
 rw [zaj]
 change wpA _ _ _ _ (Fr.of [(0,.agg (Wheel.cells a0)),(1,.sl .no 1 (a1.map cI))]) H0 g
 have hS:=St.start hf
 refine Sq ?_
 refine Rg 2 ?_
 refine zcW (v:=.agg (Wheel.cells a0)) (cs:=(Wheel.cells a0)) hS (by decide) rfl rfl (by omega) fun H hS=>?_
 refine Oa (.i 0) ?_
 refine Ni ?_
 refine zbN (L':=[]) 0 2 hS rfl rfl rfl fun H hS=>?_
 refine Ws ?_
 refine Sq ?_
 refine Rg 1 ?_
 refine Oa (.i 0) ?_
 refine Ni ?_
 refine Ws ?_
 refine zbi (J:=Int) (fun j=>[(5,.i j)]) (fun j H' g'=>St (·<g) H0 [] H' g'/\zcG j=some r) ?_ ?_
 ·rintro v1 H g1 ⟨hS,hM⟩
  change wpA _ _ _ _ (Fr.of [(5,.i v1)]) _ _
  replace hS:St (·<g) H0 [] H g1:=hS
  replace hM:zcG v1=some r:=hM
  refine Sq ?_
  refine Rg 2 ?_
  refine Om (.i v1) ?_
  refine Oa (.i v1) ?_
  refine Ni ?_
  refine Ws ?_
  refine zaT ?_
  refine za5 (x:=.i v1) (f:=fun r=>.i r) (.inr rfl) ?_ (.refl _) (Option.some.inj hM) hS
  exact (zay (zae (x:=.i v1) rfl))
 ·refine Sq ?_
  refine Rg 1 ?_
  refine Oa (.i 0) ?_
  refine Ni ?_
  refine Ws ?_
  refine zaO ?_
  refine zcx (V:=Int×Int) (fun v=>[(1,.sl .no 1 (a1.map cI)),(2,.ep (Wheel.cells a0)),(5,.i v.1),(6,.i v.2)]) (fun v m2 H' g'=>St (·<g) H0 [] H' g'/\zbo a0 a1 m2 v.1 v.2=some r) (n:=n) (0,0) (.k (.k (.k (.k .nil)))) ⟨(hS.keep [] rfl).up (by omega),hM⟩ ?_
  rintro ⟨v2,v3⟩ m2 H g2 ⟨hS,hM⟩
  obtain _ | m2:=m2
  ·exact nomatch (show none=some _ from hM)
  change wpA _ _ _ _ (Fr.of [(1,.sl .no 1 (a1.map cI)),(2,.ep (Wheel.cells a0)),(5,.i v2),(6,.i v3)]) _ _
  replace hS:St (·<g) H0 [] H g2:=hS
  replace hM:zcg a0 a1 (zbo a0 a1 m2) v2 v3=some r:=hM
  refine Sq ?_
  refine Sq ?_
  refine Rg 4 ?_
  refine Om (.i v3) ?_
  refine Om (.sl .no 1 (a1.map cI)) ?_
  refine zb8 (n:=a1.length) (by decide) rfl (List.length_map _) zaM ?_
  refine Oi (.b (decide (v3<(a1.length:Int)))) ?_
  refine Ni ?_
  refine Ws ?_
  rcases bft (decide (v3<(a1.length:Int))) with hb4 | hb4
  ·replace hM:=ifT hM hb4
   refine Ct hb4 ?_
   refine zaN ?_
   refine Ws ?_
   refine Sq ?_
   refine zaO ?_
   have hS0:=hS
   refine zc3 (n:=13) rfl (by kernel_rfl) ?_
   refine Om (.i v2) ?_
   refine Om (.sl .no 1 (a1.map cI)) ?_
   refine Om (.i v3) ?_
   obtain ⟨x5,hx5,hM⟩:=zak hM
   refine zaZ (xs:=a1) (f:=cI) (z:=v3) (u:=x5) (by decide) rfl rfl zaw hx5 ?_
   refine Olp (.i x5) zag zav ?_
   refine Of ((Wheel.cells a0)) zb9 ?_
   refine Olp (.sl .no 1 (a0.Coins.map cI)) zan zaE ?_
   refine Om (.i v3) ?_
   obtain ⟨x6,hx6,hM⟩:=zak hM
   refine zaZ (xs:=a0.Coins) (f:=cI) (z:=v3) (u:=x6) (by decide) rfl rfl zaw hx6 ?_
   refine Olp (.i x6) zag zav ?_
   refine Oi (.i (w64 (x5*x6))) ?_
   refine Oi (.i (w64 (v2+(w64 (x5*x6))))) ?_
   refine Oa (.i (w64 (v2+(w64 (x5*x6))))) ?_
   refine Ni ?_
   refine zaH ?_
   refine Ws ?_
   refine Rg 3 ?_
   refine Om (.i v3) ?_
   refine Oi (.i (w64 (v3+1))) ?_
   refine Oa (.i (w64 (v3+1))) ?_
   refine Ni ?_
   exact zbQ (w64 (v2+(w64 (x5*x6))),w64 (v3+1)) (Nat.lt_succ_self _) (.k (.k (.k (.k .nil)))) ⟨(hS.keep [] rfl).up (by omega),hM⟩
  ·replace hM:=ifF hM hb4
   refine Cf hb4 ?_
   refine zcl ?_
   refine zaK ?_
   refine zaI ?_
   refine zaQ ?_
   exact zao v2 (.k .nil) ⟨(hS.keep [] rfl).up (by omega),hM⟩
theorem zhk {n:Nat} {a0:Box} {a1:Int} {r:Bool} (hM:zej n a0 a1=some r):zaJ Try.prog 5 [.agg (Box.cells a0),.i a1] (.b r):=by
 refine zap mixed Try.func5 rfl (by decide) Try.ntmps5 (by simp) ?pure fun H0 g hf=>?_
 case pure=>exact .v _
 rw [zaj]
 change wpA _ _ _ _ (Fr.of [(0,.agg (Box.cells a0)),(1,.i a1)]) H0 g
 have hS:=St.start hf
 refine Sq ?_
 refine Rg 2 ?_
 refine zcW (v:=.agg (Box.cells a0)) (cs:=(Box.cells a0)) hS (by decide) rfl rfl (by omega) fun H hS=>?_
 refine Oa (.b false) ?_
 refine Ni ?_
 refine zbN (L':=[]) 0 2 hS rfl rfl rfl fun H hS=>?_
 refine Ws ?_
 refine Sq ?_
 refine Sq ?_
 refine Rg 3 ?_
 refine Olg (.agg (Box.cells a0)) zbf ?_
 obtain ⟨r1,hr1,hM⟩:=zak hM
 refine zaB (bs:=[.agg (Box.cells a0)]) (by decide) rfl rfl ((zlf hr1).le (.k .nil)) ?_
 refine zd8 (e:=r1) (by decide) rfl ?_
 refine Ni ?_
 refine Ws ?_
 rcases bft (!r1) with hb2 | hb2
 ·replace hM:=ifT hM hb2
  refine Ct hb2 ?_
  refine Sq ?_
  refine Rg 2 ?_
  obtain ⟨r3,hr3,hM⟩:=zak hM
  refine zaB (bs:=[]) (by decide) rfl rfl ((zf3 hr3).le .nil) ?_
  refine Oa (.b r3) ?_
  refine Ni ?_
  refine Ws ?_
  refine zaT ?_
  refine zau ?_
  refine za5 (x:=.b r3) (f:=fun r=>.b r) (.inr rfl) ?_ (.refl _) (Option.some.inj hM) hS
  exact (zay (zae (x:=.b r3) rfl))
 ·replace hM:=ifF hM hb2
  refine Cf hb2 ?_
  refine zaN ?_
  refine Ws ?_
  refine Sq ?_
  refine Rg 11 ?_
  refine Olg (.agg (Box.cells a0)) zbf ?_
  obtain ⟨r4,hr4,hM⟩:=zak hM
  refine zaB (bs:=[.agg (Box.cells a0)]) (by decide) rfl rfl ((zfz hr4).le (.k .nil)) ?_
  refine Om (.tup [.i r4.1,.i r4.2.1,.i r4.2.2.1,.i r4.2.2.2]) ?_
  refine Ox (.i r4.1) ?_
  refine Ox (.i r4.2.1) ?_
  refine Ox (.i r4.2.2.1) ?_
  refine Ox (.i r4.2.2.2) ?_
  refine Oa (.i r4.1) ?_
  refine Oa (.i r4.2.1) ?_
  refine Oa (.i r4.2.2.1) ?_
  refine Oa (.i r4.2.2.2) ?_
  refine Ni ?_
  refine Ws ?_
  refine Sq ?_
  refine Sq ?_
  refine Rg 6 ?_
  refine Of ((Box.cells a0)) zbI ?_
  refine Olg (.agg (Wheel.cells a0.Wheel)) zcH ?_
  refine Of ((Box.cells a0)) zbV ?_
  refine Olp (.sl .no 1 (a0.Found.map cI)) zan zaE ?_
  obtain ⟨r5,hr5,hM⟩:=zak hM
  refine zaB (bs:=[.agg (Wheel.cells a0.Wheel),.sl .no 1 (a0.Found.map cI)]) (by decide) rfl rfl ((zhX hr5).le (.k (.k .nil))) ?_
  refine Oa (.i r5) ?_
  refine Ni ?_
  refine Ws ?_
  refine zbi (J:=Bool) (fun j=>[(1,.i a1),(2,.ep (Box.cells a0)),(5,.i r4.1),(6,.i r4.2.1),(7,.i r4.2.2.1),(60,.b j)]) (fun j H' g'=>St (·<g) H0 [] H' g'/\za4 n a0 a1 r4 j=some r) ?_ ?_
  ·rintro v6 H g1 ⟨hS,hM⟩
   change wpA _ _ _ _ (Fr.of [(1,.i a1),(2,.ep (Box.cells a0)),(5,.i r4.1),(6,.i r4.2.1),(7,.i r4.2.2.1),(60,.b v6)]) _ _
   replace hS:St (·<g) H0 [] H g1:=hS
   replace hM:za4 n a0 a1 r4 v6=some r:=hM
   rcases bft v6 with hb7 | hb7
   ·replace hM:=ifT hM hb7
    refine Ct hb7 ?_
    refine Sq ?_
    refine Rg 1 ?_
    refine Oa (.b false) ?_
    refine Ni ?_
    refine Ws ?_
    refine zaT ?_
    refine zau ?_
    refine za5 (x:=.b false) (f:=fun r=>.b r) (.inr rfl) ?_ (.refl _) (Option.some.inj hM) hS
    exact (zay (zae (x:=.b false) rfl))
   ·replace hM:=ifF hM hb7
    refine Cf hb7 ?_
    refine zaN ?_
    refine Ws ?_
    refine Sq ?_
    refine zbi (J:=Bool) (fun j=>[(1,.i a1),(2,.ep (Box.cells a0)),(5,.i r4.1),(6,.i r4.2.1),(7,.i r4.2.2.1),(82,.b j)]) (fun j H' g'=>St (·<g) H0 [] H' g'/\za3 n a0 a1 r4 j=some r) ?_ ?_
    ·rintro v8 H g2 ⟨hS,hM⟩
     change wpA _ _ _ _ (Fr.of [(1,.i a1),(2,.ep (Box.cells a0)),(5,.i r4.1),(6,.i r4.2.1),(7,.i r4.2.2.1),(82,.b v8)]) _ _
     replace hS:St (·<g) H0 [] H g2:=hS
     replace hM:za3 n a0 a1 r4 v8=some r:=hM
     rcases bft v8 with hb9 | hb9
     ·replace hM:=ifT hM hb9
      refine Ct hb9 ?_
      refine Sq ?_
      refine Rg 2 ?_
      obtain ⟨r10,hr10,hM⟩:=zak hM
      refine zaB (bs:=[]) (by decide) rfl rfl ((zf3 hr10).le .nil) ?_
      refine Oa (.b r10) ?_
      refine Ni ?_
      refine Ws ?_
      refine zaT ?_
      refine zau ?_
      refine za5 (x:=.b r10) (f:=fun r=>.b r) (.inr rfl) ?_ (.refl _) (Option.some.inj hM) hS
      exact (zay (zae (x:=.b r10) rfl))
     ·replace hM:=ifF hM hb9
      refine Cf hb9 ?_
      refine zaN ?_
      refine Ws ?_
      refine Sq ?_
      refine Rg 4 ?_
      refine Olg (.agg (Box.cells a0)) zbf ?_
      obtain ⟨r11,hr11,hM⟩:=zak hM
      refine zwl (tm:=[(some ((.int .i64 r11.Wheel.Round))),none,none,none,none,none,(some ((.int .i64 r11.Plays))),(some ((.int .i64 r11.Skips)))]) (rs:=[(3,1,r11.Wheel.Notches.map cI),(3,1,r11.Wheel.Coins.map cI),(3,1,r11.Found.map cI),(3,1,r11.Marked.map cI),(3,1,r11.Slugs.map cI)]) (bs:=[.agg (Box.cells a0)]) (.inl rfl) hS (by decide) rfl rfl ((zli hr11).le (.k .nil)) (zac (.agg _ (zac (.v _) (zac (.sl _ _ (zat (fun x=>(zac (.v _) zaD)))) (zac (.sl _ _ (zat (fun x=>(zac (.v _) zaD)))) (zac (.sl _ _ (zat (fun x=>(zac (.v _) zaD)))) (zac (.sl _ _ (zat (fun x=>(zac (.v _) zaD)))) (zac (.sl _ _ (zat (fun x=>(zac (.v _) zaD)))) (zac (.v _) (zac (.v _) zaD))))))))) zaD) (zd2 (zeN (fun x=>(zdJ ze9))) (zd2 (zeN (fun x=>(zdJ ze9))) (zd2 (zeN (fun x=>(zdJ ze9))) (zd2 (zeN (fun x=>(zdJ ze9))) (zd2 (zeN (fun x=>(zdJ ze9))) znH))))) rfl [.no,.no,.no,.ms,.no] rfl 5 rfl (by omega) fun H hS hU=>?_
      replace hS:St (·<g) H0 ((zeM (g2+4+1+1+1) (r11.Marked.map cI).length (r11.Marked.map cI)++[])++[]) _ _:=hS
      replace hS:=hS.endM1
      change zaL _ _ _ _ _ _ _ _ (Fr.of ((85,.agg [.i r11.Wheel.Round,.sl .no 1 (r11.Wheel.Notches.map cI),.sl .no 1 (r11.Wheel.Coins.map cI),.sl .no 1 (r11.Found.map cI),msn (g2+4+1+1+1) 1 (r11.Marked.map cI).length,.sl .no 1 (r11.Slugs.map cI),.i r11.Plays,.i r11.Skips])::_)) _ _
      refine zrd hS hU (by decide) zfG (by omega) (by omega) (by omega) fun H hS hU=>?_
      refine zaU (v:=.agg [.i r11.Wheel.Round,.sl .no 1 (r11.Wheel.Notches.map cI),.sl .no 1 (r11.Wheel.Coins.map cI),.sl .no 1 (r11.Found.map cI),msn (g2+4+1+1+1) 1 (r11.Marked.map cI).length,.sl .no 1 (r11.Slugs.map cI),.i r11.Plays,.i r11.Skips]) (ns:=[.i r11.Wheel.Round,.sl .no 1 (r11.Wheel.Notches.map cI),.sl .no 1 (r11.Wheel.Coins.map cI),.sl .no 1 (r11.Found.map cI),msn (g2+4+1+1+1) 1 (r11.Marked.map cI).length,.sl .no 1 (r11.Slugs.map cI),.i r11.Plays,.i r11.Skips]) (L':=([(g2+2,.cells [.i r11.Wheel.Round,.sl .no 1 (r11.Wheel.Notches.map cI),.sl .no 1 (r11.Wheel.Coins.map cI),.sl .no 1 (r11.Found.map cI),msn (g2+4+1+1+1) 1 (r11.Marked.map cI).length,.sl .no 1 (r11.Slugs.map cI),.i r11.Plays,.i r11.Skips])]++zeM (g2+4+1+1+1) (r11.Marked.map cI).length (r11.Marked.map cI))) 0 hS rfl rfl .no rfl rfl zhG nlb rfl fun H hS=>?_
      refine Ni ?_
      refine Ws ?_
      refine Sq ?_
      refine Rg 8 ?_
      refine zaC (by decide) zdw rfl ?_
      refine zaR (v:=msn (g2+4+1+1+1) 1 (r11.Marked.map cI).length) 0 hS (by decide) rfl rfl .no (po zan zaE) ?_
      refine Om (.i a1) ?_
      obtain ⟨x12,hx12,hM⟩:=zak hM
      refine zgQ (xs:=r11.Marked) (f:=cI) (z:=a1) (u:=x12) hS (by decide) rfl rfl zaw hx12 ?_
      refine zmM (xs:=r11.Marked) (z:=a1) (u:=x12) hS (by decide) rfl hx12 .no zag zav ?_
      refine Oi (.i (w64 (x12+1))) ?_
      obtain ⟨x13,hx13,hM⟩:=zak hM
      refine zgQ (xs:=r11.Marked) (f:=cI) (z:=a1) (u:=x13) hS (by decide) rfl rfl zaw hx13 ?_
      refine zk1 (xs:=r11.Marked) (z:=a1) (u:=x13) (v:=(w64 (x12+1))) hS rfl hx13 .no rfl zhd fun H hS=>?_
      refine Ni ?_
      refine ztY (k:=1) (p:=4) (es:=(r11.Marked.set (Int.toNat a1) (w64 (x12+1))).map cI) (cs':=[.i r11.Wheel.Round,.sl .no 1 (r11.Wheel.Notches.map cI),.sl .no 1 (r11.Wheel.Coins.map cI),.sl .no 1 (r11.Found.map cI),.sl .no 1 ((r11.Marked.set (Int.toNat a1) (w64 (x12+1))).map cI),.sl .no 1 (r11.Slugs.map cI),.i r11.Plays,.i r11.Skips]) (Lp':=[(g2+2,.cells [.i r11.Wheel.Round,.sl .no 1 (r11.Wheel.Notches.map cI),.sl .no 1 (r11.Wheel.Coins.map cI),.sl .no 1 (r11.Found.map cI),.sl .no 1 ((r11.Marked.set (Int.toNat a1) (w64 (x12+1))).map cI),.sl .no 1 (r11.Slugs.map cI),.i r11.Plays,.i r11.Skips])]) 0 hS.thaw rfl (congrArg some (zsr hS.len).symm) (by decide) (zrb (fun _=>rfl)) (zeN (fun x=>(zdJ ze9))) rfl rfl fun H hS=>?_
      refine Ws ?_
      refine Sq ?_
      refine Rg 11 ?_
      refine zaR (v:=.agg [.i r11.Wheel.Round,.sl .no 1 (r11.Wheel.Notches.map cI),.sl .no 1 (r11.Wheel.Coins.map cI),.sl .no 1 (r11.Found.map cI),.sl .no 1 ((r11.Marked.set (Int.toNat a1) (w64 (x12+1))).map cI),.sl .no 1 (r11.Slugs.map cI),.i r11.Plays,.i r11.Skips]) 0 hS (by decide) rfl rfl .no (pg zbf) ?_
      obtain ⟨r14,hr14,hM⟩:=zak hM
      refine zaB (bs:=[.agg [.i r11.Wheel.Round,.sl .no 1 (r11.Wheel.Notches.map cI),.sl .no 1 (r11.Wheel.Coins.map cI),.sl .no 1 (r11.Found.map cI),.sl .no 1 ((r11.Marked.set (Int.toNat a1) (w64 (x12+1))).map cI),.sl .no 1 (r11.Slugs.map cI),.i r11.Plays,.i r11.Skips]]) (by decide) rfl rfl ((zfz hr14).le (.k .nil)) ?_
      refine Om (.tup [.i r14.1,.i r14.2.1,.i r14.2.2.1,.i r14.2.2.2]) ?_
      refine Ox (.i r14.1) ?_
      refine Ox (.i r14.2.1) ?_
      refine Ox (.i r14.2.2.1) ?_
      refine Ox (.i r14.2.2.2) ?_
      refine Oa (.i r14.1) ?_
      refine Oa (.i r14.2.1) ?_
      refine Oa (.i r14.2.2.1) ?_
      refine Oa (.i r14.2.2.2) ?_
      refine Ni ?_
      refine Ws ?_
      refine Sq ?_
      refine Rg 7 ?_
      refine Olg (.agg (Box.cells a0)) zbf ?_
      obtain ⟨r15,hr15,hM⟩:=zak hM
      refine zaB (bs:=[.agg (Box.cells a0)]) (by decide) rfl rfl ((zf2 hr15).le (.k .nil)) ?_
      refine Om (.tup [.sl .no 1 (r15.1.map cI),.i r15.2]) ?_
      refine Ox (.sl .no 1 (r15.1.map cI)) ?_
      refine Ox (.i r15.2) ?_
      refine Oa (.sl .no 1 (r15.1.map cI)) ?_
      refine Oa (.i r15.2) ?_
      refine Ni ?_
      refine Ws ?_
      refine Sq ?_
      refine Rg 7 ?_
      refine zaR (v:=.agg [.i r11.Wheel.Round,.sl .no 1 (r11.Wheel.Notches.map cI),.sl .no 1 (r11.Wheel.Coins.map cI),.sl .no 1 (r11.Found.map cI),.sl .no 1 ((r11.Marked.set (Int.toNat a1) (w64 (x12+1))).map cI),.sl .no 1 (r11.Slugs.map cI),.i r11.Plays,.i r11.Skips]) 0 hS (by decide) rfl rfl .no (pg zbf) ?_
      obtain ⟨r16,hr16,hM⟩:=zak hM
      refine zaB (bs:=[.agg [.i r11.Wheel.Round,.sl .no 1 (r11.Wheel.Notches.map cI),.sl .no 1 (r11.Wheel.Coins.map cI),.sl .no 1 (r11.Found.map cI),.sl .no 1 ((r11.Marked.set (Int.toNat a1) (w64 (x12+1))).map cI),.sl .no 1 (r11.Slugs.map cI),.i r11.Plays,.i r11.Skips]]) (by decide) rfl rfl ((zf2 hr16).le (.k .nil)) ?_
      refine Om (.tup [.sl .no 1 (r16.1.map cI),.i r16.2]) ?_
      refine Ox (.sl .no 1 (r16.1.map cI)) ?_
      refine Ox (.i r16.2) ?_
      refine Oa (.sl .no 1 (r16.1.map cI)) ?_
      refine Oa (.i r16.2) ?_
      refine Ni ?_
      refine Ws ?_
      refine Sq ?_
      refine Rg 7 ?_
      refine Olg (.agg (Box.cells a0)) zbf ?_
      obtain ⟨r17,hr17,hM⟩:=zak hM
      refine zaB (bs:=[.agg (Box.cells a0)]) (by decide) rfl rfl ((zem hr17).le (.k .nil)) ?_
      refine Om (.tup [.i r17.1,.i r17.2]) ?_
      refine Ox (.i r17.1) ?_
      refine Ox (.i r17.2) ?_
      refine Oa (.i r17.1) ?_
      refine Oa (.i r17.2) ?_
      refine Ni ?_
      refine Ws ?_
      refine Sq ?_
      refine Rg 7 ?_
      refine zaR (v:=.agg [.i r11.Wheel.Round,.sl .no 1 (r11.Wheel.Notches.map cI),.sl .no 1 (r11.Wheel.Coins.map cI),.sl .no 1 (r11.Found.map cI),.sl .no 1 ((r11.Marked.set (Int.toNat a1) (w64 (x12+1))).map cI),.sl .no 1 (r11.Slugs.map cI),.i r11.Plays,.i r11.Skips]) 0 hS (by decide) rfl rfl .no (pg zbf) ?_
      obtain ⟨r18,hr18,hM⟩:=zak hM
      refine zaB (bs:=[.agg [.i r11.Wheel.Round,.sl .no 1 (r11.Wheel.Notches.map cI),.sl .no 1 (r11.Wheel.Coins.map cI),.sl .no 1 (r11.Found.map cI),.sl .no 1 ((r11.Marked.set (Int.toNat a1) (w64 (x12+1))).map cI),.sl .no 1 (r11.Slugs.map cI),.i r11.Plays,.i r11.Skips]]) (by decide) rfl rfl ((zem hr18).le (.k .nil)) ?_
      refine Om (.tup [.i r18.1,.i r18.2]) ?_
      refine Ox (.i r18.1) ?_
      refine Ox (.i r18.2) ?_
      refine Oa (.i r18.1) ?_
      refine Oa (.i r18.2) ?_
      refine Ni ?_
      replace hS:=hS.keep (L':=[]) [false] rfl
      refine Ws ?_
      refine zbi (J:=Bool) (fun j=>[(4,.b j)]) (fun j H' g'=>St (·<g) H0 [] H' g'/\zaP j=some r) ?_ ?_
      ·rintro v19 H g3 ⟨hS,hM⟩
       change wpA _ _ _ _ (Fr.of [(4,.b v19)]) _ _
       replace hS:St (·<g) H0 [] H g3:=hS
       replace hM:zaP v19=some r:=hM
       refine zaT ?_
       refine za5 (x:=.b v19) (f:=fun r=>.b r) (.inr rfl) ?_ (.refl _) (Option.some.inj hM) hS
       exact (zay (zae (x:=.b v19) rfl))
      ·refine Rg 55 ?_
       refine Om (.i r14.2.2.2) ?_
       refine Oi (.b (r14.2.2.2==0)) ?_
       refine Om (.b (r14.2.2.2==0)) ?_
       rcases bft (r14.2.2.2==0) with hb20 | hb20
       ·replace hM:=ifT hM hb20
        refine Oy (want:=true) hb20 ?_
        refine Om (.i r14.1) ?_
        refine Oy (want:=true) hb20 ?_
        refine Om (.i r4.1) ?_
        refine Oy (want:=true) hb20 ?_
        refine Of ((Box.cells a0)) zbI ?_
        refine Oy (want:=true) hb20 ?_
        refine Of ((Box.cells a0)) zb9 ?_
        refine Oy (want:=true) hb20 ?_
        refine Olp (.sl .no 1 (a0.Wheel.Coins.map cI)) zan zaE ?_
        refine Oy (want:=true) hb20 ?_
        refine Om (.i a1) ?_
        refine Oy (want:=true) hb20 ?_
        obtain ⟨x21,hx21,hM⟩:=zak hM
        refine zaZ (xs:=a0.Wheel.Coins) (f:=cI) (z:=a1) (u:=x21) (by decide) rfl rfl zaw hx21 ?_
        refine Oy (want:=true) hb20 ?_
        refine Olp (.i x21) zag zav ?_
        refine Oy (want:=true) hb20 ?_
        refine Oi (.i (w64 (r4.1-x21))) ?_
        refine Oy (want:=true) hb20 ?_
        refine Oi (.b (r14.1==(w64 (r4.1-x21)))) ?_
        refine Pt (.b (r14.1==(w64 (r4.1-x21)))) hb20 ?_
        refine Om (.b (r14.1==(w64 (r4.1-x21)))) ?_
        rcases bft (r14.1==(w64 (r4.1-x21))) with hb22 | hb22
        ·replace hM:=ifT hM hb22
         refine Oy (want:=true) hb22 ?_
         refine Om (.i r14.2.1) ?_
         refine Oy (want:=true) hb22 ?_
         refine Om (.i r4.2.1) ?_
         refine Oy (want:=true) hb22 ?_
         refine Of ((Box.cells a0)) zbI ?_
         refine Oy (want:=true) hb22 ?_
         refine Of ((Box.cells a0)) zb9 ?_
         refine Oy (want:=true) hb22 ?_
         refine Olp (.sl .no 1 (a0.Wheel.Coins.map cI)) zan zaE ?_
         refine Oy (want:=true) hb22 ?_
         refine Om (.i a1) ?_
         refine Oy (want:=true) hb22 ?_
         obtain ⟨x23,hx23,hM⟩:=zak hM
         refine zaZ (xs:=a0.Wheel.Coins) (f:=cI) (z:=a1) (u:=x23) (by decide) rfl rfl zaw hx23 ?_
         refine Oy (want:=true) hb22 ?_
         refine Olp (.i x23) zag zav ?_
         refine Oy (want:=true) hb22 ?_
         refine Oi (.i (w64 (r4.2.1+x23))) ?_
         refine Oy (want:=true) hb22 ?_
         refine Oi (.b (r14.2.1==(w64 (r4.2.1+x23)))) ?_
         refine Pt (.b (r14.2.1==(w64 (r4.2.1+x23)))) hb22 ?_
         refine Om (.b (r14.2.1==(w64 (r4.2.1+x23)))) ?_
         rcases bft (r14.2.1==(w64 (r4.2.1+x23))) with hb24 | hb24
         ·replace hM:=ifT hM hb24
          refine Oy (want:=true) hb24 ?_
          refine Om (.i r14.2.2.1) ?_
          refine Oy (want:=true) hb24 ?_
          refine Om (.i r4.2.2.1) ?_
          refine Oy (want:=true) hb24 ?_
          refine Oi (.b (r14.2.2.1==r4.2.2.1)) ?_
          refine Pt (.b (r14.2.2.1==r4.2.2.1)) hb24 ?_
          refine Om (.b (r14.2.2.1==r4.2.2.1)) ?_
          rcases bft (r14.2.2.1==r4.2.2.1) with hb25 | hb25
          ·replace hM:=ifT hM hb25
           refine Oy (want:=true) hb25 ?_
           refine Om (.sl .no 1 (r15.1.map cI)) ?_
           refine Oy (want:=true) hb25 ?_
           refine Om (.sl .no 1 (r16.1.map cI)) ?_
           refine Oy (want:=true) hb25 ?_
           obtain ⟨r26,hr26,hM⟩:=zak hM
           refine zaB (bs:=[.sl .no 1 (r15.1.map cI),.sl .no 1 (r16.1.map cI)]) (by decide) rfl rfl ((zf8 hr26).le (.k (.k .nil))) ?_
           refine Pt (.b r26) hb25 ?_
           refine Om (.b r26) ?_
           rcases bft r26 with hb27 | hb27
           ·replace hM:=ifT hM hb27
            refine Oy (want:=true) hb27 ?_
            refine Om (.i r15.2) ?_
            refine Oy (want:=true) hb27 ?_
            refine Om (.i r16.2) ?_
            refine Oy (want:=true) hb27 ?_
            refine Oi (.b (r15.2==r16.2)) ?_
            refine Pt (.b (r15.2==r16.2)) hb27 ?_
            refine Om (.b (r15.2==r16.2)) ?_
            rcases bft (r15.2==r16.2) with hb28 | hb28
            ·replace hM:=ifT hM hb28
             refine Oy (want:=true) hb28 ?_
             refine Om (.i r17.1) ?_
             refine Oy (want:=true) hb28 ?_
             refine Om (.i r18.1) ?_
             refine Oy (want:=true) hb28 ?_
             refine Oi (.b (r17.1==r18.1)) ?_
             refine Pt (.b (r17.1==r18.1)) hb28 ?_
             refine Om (.b (r17.1==r18.1)) ?_
             rcases bft (r17.1==r18.1) with hb29 | hb29
             ·replace hM:=ifT hM hb29
              refine Oy (want:=true) hb29 ?_
              refine Om (.i r17.2) ?_
              refine Oy (want:=true) hb29 ?_
              refine Om (.i r18.2) ?_
              refine Oy (want:=true) hb29 ?_
              refine Oi (.b (r17.2==r18.2)) ?_
              refine Pt (.b (r17.2==r18.2)) hb29 ?_
              refine Om (.b (r17.2==r18.2)) ?_
              rcases bft (r17.2==r18.2) with hb30 | hb30
              ·replace hM:=ifT hM hb30
               refine Oy (want:=true) hb30 ?_
               obtain ⟨r31,hr31,hM⟩:=zak hM
               refine zaB (bs:=[]) (by decide) rfl rfl ((zf3 hr31).le .nil) ?_
               refine Pt (.b r31) hb30 ?_
               refine Oa (.b r31) ?_
               refine Ni ?_
               exact zao r31 (.k .nil) ⟨(hS.keep [] rfl).up (by omega),hM⟩
              ·replace hM:=ifF hM hb30
               refine On (want:=true) hb30 ?_
               refine Pf (.b false) hb30 ?_
               refine Oa (.b false) ?_
               refine Ni ?_
               exact zao false (.k .nil) ⟨(hS.keep [] rfl).up (by omega),hM⟩
             ·replace hM:=ifF hM hb29
              refine On (want:=true) hb29 ?_
              refine On (want:=true) hb29 ?_
              refine On (want:=true) hb29 ?_
              refine Pf (.b false) hb29 ?_
              refine Om (.b false) ?_
              refine Og ?_
              refine zaG (v:=.b false) (e:=false) (by decide) rfl rfl rfl ?_
              refine Oa (.b false) ?_
              refine Ni ?_
              exact zao false (.k .nil) ⟨(hS.keep [] rfl).up (by omega),hM⟩
            ·replace hM:=ifF hM hb28
             refine On (want:=true) hb28 ?_
             refine On (want:=true) hb28 ?_
             refine On (want:=true) hb28 ?_
             refine Pf (.b false) hb28 ?_
             refine Om (.b false) ?_
             refine Og ?_
             refine Og ?_
             refine Og ?_
             refine zaG (v:=.b false) (e:=false) (by decide) rfl rfl rfl ?_
             refine Om (.b false) ?_
             refine Og ?_
             refine zaG (v:=.b false) (e:=false) (by decide) rfl rfl rfl ?_
             refine Oa (.b false) ?_
             refine Ni ?_
             exact zao false (.k .nil) ⟨(hS.keep [] rfl).up (by omega),hM⟩
           ·replace hM:=ifF hM hb27
            refine On (want:=true) hb27 ?_
            refine On (want:=true) hb27 ?_
            refine On (want:=true) hb27 ?_
            refine Pf (.b false) hb27 ?_
            refine Om (.b false) ?_
            refine Og ?_
            refine Og ?_
            refine Og ?_
            refine zaG (v:=.b false) (e:=false) (by decide) rfl rfl rfl ?_
            refine Om (.b false) ?_
            refine Og ?_
            refine Og ?_
            refine Og ?_
            refine zaG (v:=.b false) (e:=false) (by decide) rfl rfl rfl ?_
            refine Om (.b false) ?_
            refine Og ?_
            refine zaG (v:=.b false) (e:=false) (by decide) rfl rfl rfl ?_
            refine Oa (.b false) ?_
            refine Ni ?_
            exact zao false (.k .nil) ⟨(hS.keep [] rfl).up (by omega),hM⟩
          ·replace hM:=ifF hM hb25
           refine On (want:=true) hb25 ?_
           refine On (want:=true) hb25 ?_
           refine On (want:=true) hb25 ?_
           refine Pf (.b false) hb25 ?_
           refine Om (.b false) ?_
           refine Og ?_
           refine Og ?_
           refine Og ?_
           refine zaG (v:=.b false) (e:=false) (by decide) rfl rfl rfl ?_
           refine Om (.b false) ?_
           refine Og ?_
           refine Og ?_
           refine Og ?_
           refine zaG (v:=.b false) (e:=false) (by decide) rfl rfl rfl ?_
           refine Om (.b false) ?_
           refine Og ?_
           refine Og ?_
           refine Og ?_
           refine zaG (v:=.b false) (e:=false) (by decide) rfl rfl rfl ?_
           refine Om (.b false) ?_
           refine Og ?_
           refine zaG (v:=.b false) (e:=false) (by decide) rfl rfl rfl ?_
           refine Oa (.b false) ?_
           refine Ni ?_
           exact zao false (.k .nil) ⟨(hS.keep [] rfl).up (by omega),hM⟩
         ·replace hM:=ifF hM hb24
          refine On (want:=true) hb24 ?_
          refine On (want:=true) hb24 ?_
          refine On (want:=true) hb24 ?_
          refine Pf (.b false) hb24 ?_
          refine Om (.b false) ?_
          refine Og ?_
          refine Og ?_
          refine Og ?_
          refine zaG (v:=.b false) (e:=false) (by decide) rfl rfl rfl ?_
          refine Om (.b false) ?_
          refine Og ?_
          refine Og ?_
          refine Og ?_
          refine zaG (v:=.b false) (e:=false) (by decide) rfl rfl rfl ?_
          refine Om (.b false) ?_
          refine Og ?_
          refine Og ?_
          refine Og ?_
          refine zaG (v:=.b false) (e:=false) (by decide) rfl rfl rfl ?_
          refine Om (.b false) ?_
          refine Og ?_
          refine Og ?_
          refine Og ?_
          refine zaG (v:=.b false) (e:=false) (by decide) rfl rfl rfl ?_
          refine Om (.b false) ?_
          refine Og ?_
          refine zaG (v:=.b false) (e:=false) (by decide) rfl rfl rfl ?_
          refine Oa (.b false) ?_
          refine Ni ?_
          exact zao false (.k .nil) ⟨(hS.keep [] rfl).up (by omega),hM⟩
        ·replace hM:=ifF hM hb22
         refine On (want:=true) hb22 ?_
         refine On (want:=true) hb22 ?_
         refine On (want:=true) hb22 ?_
         refine On (want:=true) hb22 ?_
         refine On (want:=true) hb22 ?_
         refine On (want:=true) hb22 ?_
         refine On (want:=true) hb22 ?_
         refine On (want:=true) hb22 ?_
         refine On (want:=true) hb22 ?_
         refine On (want:=true) hb22 ?_
         refine Pf (.b false) hb22 ?_
         refine Om (.b false) ?_
         refine Og ?_
         refine Og ?_
         refine Og ?_
         refine zaG (v:=.b false) (e:=false) (by decide) rfl rfl rfl ?_
         refine Om (.b false) ?_
         refine Og ?_
         refine Og ?_
         refine Og ?_
         refine zaG (v:=.b false) (e:=false) (by decide) rfl rfl rfl ?_
         refine Om (.b false) ?_
         refine Og ?_
         refine Og ?_
         refine Og ?_
         refine zaG (v:=.b false) (e:=false) (by decide) rfl rfl rfl ?_
         refine Om (.b false) ?_
         refine Og ?_
         refine Og ?_
         refine Og ?_
         refine zaG (v:=.b false) (e:=false) (by decide) rfl rfl rfl ?_
         refine Om (.b false) ?_
         refine Og ?_
         refine Og ?_
         refine Og ?_
         refine zaG (v:=.b false) (e:=false) (by decide) rfl rfl rfl ?_
         refine Om (.b false) ?_
         refine Og ?_
         refine zaG (v:=.b false) (e:=false) (by decide) rfl rfl rfl ?_
         refine Oa (.b false) ?_
         refine Ni ?_
         exact zao false (.k .nil) ⟨(hS.keep [] rfl).up (by omega),hM⟩
       ·replace hM:=ifF hM hb20
        refine On (want:=true) hb20 ?_
        refine On (want:=true) hb20 ?_
        refine On (want:=true) hb20 ?_
        refine On (want:=true) hb20 ?_
        refine On (want:=true) hb20 ?_
        refine On (want:=true) hb20 ?_
        refine On (want:=true) hb20 ?_
        refine On (want:=true) hb20 ?_
        refine On (want:=true) hb20 ?_
        refine On (want:=true) hb20 ?_
        refine Pf (.b false) hb20 ?_
        refine Om (.b false) ?_
        refine Og ?_
        refine Og ?_
        refine Og ?_
        refine Og ?_
        refine Og ?_
        refine Og ?_
        refine Og ?_
        refine Og ?_
        refine Og ?_
        refine Og ?_
        refine zaG (v:=.b false) (e:=false) (by decide) rfl rfl rfl ?_
        refine Om (.b false) ?_
        refine Og ?_
        refine Og ?_
        refine Og ?_
        refine zaG (v:=.b false) (e:=false) (by decide) rfl rfl rfl ?_
        refine Om (.b false) ?_
        refine Og ?_
        refine Og ?_
        refine Og ?_
        refine zaG (v:=.b false) (e:=false) (by decide) rfl rfl rfl ?_
        refine Om (.b false) ?_
        refine Og ?_
        refine Og ?_
        refine Og ?_
        refine zaG (v:=.b false) (e:=false) (by decide) rfl rfl rfl ?_
        refine Om (.b false) ?_
        refine Og ?_
        refine Og ?_
        refine Og ?_
        refine zaG (v:=.b false) (e:=false) (by decide) rfl rfl rfl ?_
        refine Om (.b false) ?_
        refine Og ?_
        refine Og ?_
        refine Og ?_
        refine zaG (v:=.b false) (e:=false) (by decide) rfl rfl rfl ?_
        refine Om (.b false) ?_
        refine Og ?_
        refine zaG (v:=.b false) (e:=false) (by decide) rfl rfl rfl ?_
        refine Oa (.b false) ?_
        refine Ni ?_
        exact zao false (.k .nil) ⟨(hS.keep [] rfl).up (by omega),hM⟩
    ·have hS0:=hS
     refine zc3 (n:=22) rfl (by kernel_rfl) ?_
     refine Om (.i a1) ?_
     refine Oi (.b (decide (a1<0))) ?_
     refine Om (.b (decide (a1<0))) ?_
     rcases bft (decide (a1<0)) with hb32 | hb32
     ·replace hM:=ifT hM hb32
      refine On (want:=false) hb32 ?_
      refine On (want:=false) hb32 ?_
      refine On (want:=false) hb32 ?_
      refine On (want:=false) hb32 ?_
      refine On (want:=false) hb32 ?_
      refine Pt (.b true) hb32 ?_
      refine Om (.b true) ?_
      refine Og ?_
      refine Og ?_
      refine Og ?_
      refine Og ?_
      refine Og ?_
      refine Og ?_
      refine Og ?_
      refine Og ?_
      refine Og ?_
      refine Og ?_
      refine Og ?_
      refine zbJ (v:=.b true) (e:=true) (by decide) rfl rfl rfl ?_
      refine Ni ?_
      exact zao true (.k (.k (.k (.k (.k (.k .nil)))))) ⟨(hS.keep [] rfl).up (by omega),hM⟩
     ·replace hM:=ifF hM hb32
      refine Oy (want:=false) hb32 ?_
      refine Om (.i a1) ?_
      refine Oy (want:=false) hb32 ?_
      refine Of ((Box.cells a0)) zbV ?_
      refine Oy (want:=false) hb32 ?_
      refine Olp (.sl .no 1 (a0.Found.map cI)) zan zaE ?_
      refine Oy (want:=false) hb32 ?_
      refine zb8 (n:=a0.Found.length) (by decide) rfl (List.length_map _) zaM ?_
      refine Oy (want:=false) hb32 ?_
      refine Oi (.b (decide (a1≥(a0.Found.length:Int)))) ?_
      refine Pf (.b (decide (a1≥(a0.Found.length:Int)))) hb32 ?_
      refine Om (.b (decide (a1≥(a0.Found.length:Int)))) ?_
      rcases bft (decide (a1≥(a0.Found.length:Int))) with hb33 | hb33
      ·replace hM:=ifT hM hb33
       refine On (want:=false) hb33 ?_
       refine On (want:=false) hb33 ?_
       refine On (want:=false) hb33 ?_
       refine On (want:=false) hb33 ?_
       refine On (want:=false) hb33 ?_
       refine On (want:=false) hb33 ?_
       refine On (want:=false) hb33 ?_
       refine On (want:=false) hb33 ?_
       refine On (want:=false) hb33 ?_
       refine On (want:=false) hb33 ?_
       refine On (want:=false) hb33 ?_
       refine Pt (.b true) hb33 ?_
       refine Ni ?_
       exact zao true (.k (.k (.k (.k (.k (.k .nil)))))) ⟨(hS.keep [] rfl).up (by omega),hM⟩
      ·replace hM:=ifF hM hb33
       refine Oy (want:=false) hb33 ?_
       refine Of ((Box.cells a0)) zdw ?_
       refine Oy (want:=false) hb33 ?_
       refine Olp (.sl .no 1 (a0.Marked.map cI)) zan zaE ?_
       refine Oy (want:=false) hb33 ?_
       refine Om (.i a1) ?_
       refine Oy (want:=false) hb33 ?_
       obtain ⟨x34,hx34,hM⟩:=zak hM
       refine zaZ (xs:=a0.Marked) (f:=cI) (z:=a1) (u:=x34) (by decide) rfl rfl zaw hx34 ?_
       refine Oy (want:=false) hb33 ?_
       refine Olp (.i x34) zag zav ?_
       refine Oy (want:=false) hb33 ?_
       refine Of ((Box.cells a0)) zbV ?_
       refine Oy (want:=false) hb33 ?_
       refine Olp (.sl .no 1 (a0.Found.map cI)) zan zaE ?_
       refine Oy (want:=false) hb33 ?_
       refine Om (.i a1) ?_
       refine Oy (want:=false) hb33 ?_
       obtain ⟨x35,hx35,hM⟩:=zak hM
       refine zaZ (xs:=a0.Found) (f:=cI) (z:=a1) (u:=x35) (by decide) rfl rfl zaw hx35 ?_
       refine Oy (want:=false) hb33 ?_
       refine Olp (.i x35) zag zav ?_
       refine Oy (want:=false) hb33 ?_
       refine Oi (.b (x34==x35)) ?_
       refine Pf (.b (x34==x35)) hb33 ?_
       refine Ni ?_
       exact zao (x34==x35) (.k (.k (.k (.k (.k (.k .nil)))))) ⟨(hS.keep [] rfl).up (by omega),hM⟩
  ·refine Rg 22 ?_
   refine Om (.i r4.2.2.2) ?_
   refine Oi (.b (r4.2.2.2 != 0)) ?_
   refine Om (.b (r4.2.2.2 != 0)) ?_
   rcases bft (r4.2.2.2 != 0) with hb36 | hb36
   ·replace hM:=ifT hM hb36
    refine On (want:=false) hb36 ?_
    refine On (want:=false) hb36 ?_
    refine Pt (.b true) hb36 ?_
    refine Om (.b true) ?_
    refine Og ?_
    refine Og ?_
    refine zbJ (v:=.b true) (e:=true) (by decide) rfl rfl rfl ?_
    refine Om (.b true) ?_
    refine Og ?_
    refine Og ?_
    refine Og ?_
    refine zbJ (v:=.b true) (e:=true) (by decide) rfl rfl rfl ?_
    refine Om (.b true) ?_
    refine Og ?_
    refine Og ?_
    refine Og ?_
    refine Og ?_
    refine Og ?_
    refine zbJ (v:=.b true) (e:=true) (by decide) rfl rfl rfl ?_
    refine Ni ?_
    exact zao true (.k (.k (.k (.k (.k (.k .nil)))))) ⟨(hS.keep [] rfl).up (by omega),hM⟩
   ·replace hM:=ifF hM hb36
    refine Oy (want:=false) hb36 ?_
    refine Om (.i r4.1) ?_
    refine Oy (want:=false) hb36 ?_
    refine Oi (.b (decide (r4.1<0))) ?_
    refine Pf (.b (decide (r4.1<0))) hb36 ?_
    refine Om (.b (decide (r4.1<0))) ?_
    rcases bft (decide (r4.1<0)) with hb37 | hb37
    ·replace hM:=ifT hM hb37
     refine On (want:=false) hb37 ?_
     refine On (want:=false) hb37 ?_
     refine Pt (.b true) hb37 ?_
     refine Om (.b true) ?_
     refine Og ?_
     refine Og ?_
     refine Og ?_
     refine zbJ (v:=.b true) (e:=true) (by decide) rfl rfl rfl ?_
     refine Om (.b true) ?_
     refine Og ?_
     refine Og ?_
     refine Og ?_
     refine Og ?_
     refine Og ?_
     refine zbJ (v:=.b true) (e:=true) (by decide) rfl rfl rfl ?_
     refine Ni ?_
     exact zao true (.k (.k (.k (.k (.k (.k .nil)))))) ⟨(hS.keep [] rfl).up (by omega),hM⟩
    ·replace hM:=ifF hM hb37
     refine Oy (want:=false) hb37 ?_
     refine Om (.i r4.2.1) ?_
     refine Oy (want:=false) hb37 ?_
     refine Oi (.b (decide (r4.2.1<0))) ?_
     refine Pf (.b (decide (r4.2.1<0))) hb37 ?_
     refine Om (.b (decide (r4.2.1<0))) ?_
     rcases bft (decide (r4.2.1<0)) with hb38 | hb38
     ·replace hM:=ifT hM hb38
      refine On (want:=false) hb38 ?_
      refine On (want:=false) hb38 ?_
      refine On (want:=false) hb38 ?_
      refine Pt (.b true) hb38 ?_
      refine Om (.b true) ?_
      refine Og ?_
      refine Og ?_
      refine Og ?_
      refine Og ?_
      refine Og ?_
      refine zbJ (v:=.b true) (e:=true) (by decide) rfl rfl rfl ?_
      refine Ni ?_
      exact zao true (.k (.k (.k (.k (.k (.k .nil)))))) ⟨(hS.keep [] rfl).up (by omega),hM⟩
     ·replace hM:=ifF hM hb38
      refine Oy (want:=false) hb38 ?_
      refine Om (.i r4.1) ?_
      refine Oy (want:=false) hb38 ?_
      refine Om (.i r5) ?_
      refine Oy (want:=false) hb38 ?_
      refine Oi (.b (decide (r4.1>r5))) ?_
      refine Pf (.b (decide (r4.1>r5))) hb38 ?_
      refine Om (.b (decide (r4.1>r5))) ?_
      rcases bft (decide (r4.1>r5)) with hb39 | hb39
      ·replace hM:=ifT hM hb39
       refine On (want:=false) hb39 ?_
       refine On (want:=false) hb39 ?_
       refine On (want:=false) hb39 ?_
       refine On (want:=false) hb39 ?_
       refine On (want:=false) hb39 ?_
       refine Pt (.b true) hb39 ?_
       refine Ni ?_
       exact zao true (.k (.k (.k (.k (.k (.k .nil)))))) ⟨(hS.keep [] rfl).up (by omega),hM⟩
      ·replace hM:=ifF hM hb39
       refine Oy (want:=false) hb39 ?_
       refine Om (.i r4.1) ?_
       refine Oy (want:=false) hb39 ?_
       refine Om (.i r4.2.1) ?_
       refine Oy (want:=false) hb39 ?_
       refine Oi (.i (w64 (r4.1+r4.2.1))) ?_
       refine Oy (want:=false) hb39 ?_
       refine Om (.i r5) ?_
       refine Oy (want:=false) hb39 ?_
       refine Oi (.b ((w64 (r4.1+r4.2.1)) != r5)) ?_
       refine Pf (.b ((w64 (r4.1+r4.2.1)) != r5)) hb39 ?_
       refine Ni ?_
       exact zao ((w64 (r4.1+r4.2.1)) != r5) (.k (.k (.k (.k (.k (.k .nil)))))) ⟨(hS.keep [] rfl).up (by omega),hM⟩
end Go.Proofs.Ytenogpmlhpcibaa
