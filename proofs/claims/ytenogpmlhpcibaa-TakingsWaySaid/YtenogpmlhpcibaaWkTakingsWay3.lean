/-
  The code returns what the functions say (printed by gen.py).
  Conditions: none.
-/
import Derived.Test.YtenogpmlhpcibaaWkTakingsWay2
import Derived.Test.YtenogpmlhpcibaaAmOx
import Derived.Test.YtenogpmlhpcibaaSh
import Derived.Test.YtenogpmlhpcibaaKs
import Derived.Test.YtenogpmlhpcibaaEn
set_option linter.all false
namespace Go.Proofs.Ytenogpmlhpcibaa
open Go Go.AM Go.Law
set_option linter.unusedVariables false
set_option maxRecDepth 4000
set_option maxHeartbeats 4000000
theorem zlC {n:Nat} {a0:Box} {r:Int×Int×Int×Int} (hM:zgo n a0=some r):zaH Try.prog 20 [.agg (Box.cells a0)] (.tup [.i r.1,.i r.2.1,.i r.2.2.1,.i r.2.2.2]):=by
 refine zak mixed Try.func20 rfl (by decide) Try.ntmps20 (by simp) ?pure fun H0 g hf=>?_
 case pure=>exact .tup _ (zab (.v _) (zab (.v _) (zab (.v _) (zab (.v _) zaF))))
 rw [zag]
 change wpA _ _ _ _ (Fr.of [(0,.agg (Box.cells a0))]) H0 g
 have hS:=St.start hf
 refine Sq ?_
 refine Rg 5 ?_
 refine zb4 (v:=.agg (Box.cells a0)) (cs:=(Box.cells a0)) hS (by decide) rfl rfl (by omega) fun H hS=>?_
 refine Oa (.i 0) ?_
 refine Oa (.i 0) ?_
 refine Oa (.i 0) ?_
 refine Oa (.i 0) ?_
 refine Ni ?_
 refine zaX (L':=[]) 0 1 hS rfl rfl rfl fun H hS=>?_
 refine Ws ?_
 refine Sq ?_
 refine Rg 7 ?_
 refine Olg (.agg (Box.cells a0)) zcj ?_
 obtain ⟨r1,hr1,hM⟩:=zai hM
 refine zaE (bs:=[.agg (Box.cells a0)]) (by decide) rfl rfl ((zfi hr1).le (.k .nil)) ?_
 refine Om (.tup [pA Box_.cells r1.1,.i r1.2]) ?_
 refine Ox (pA Box_.cells r1.1) ?_
 refine Ox (.i r1.2) ?_
 refine Oa (pA Box_.cells r1.1) ?_
 refine Oa (.i r1.2) ?_
 refine Ni ?_
 refine Ws ?_
 refine Sq ?_
 refine Sq ?_
 refine Rg 2 ?_
 refine Om (.i r1.2) ?_
 refine Oi (.b (r1.2 != 0)) ?_
 refine Ni ?_
 refine Ws ?_
 rcases bft (r1.2 != 0) with hb2 | hb2
 ·replace hM:=ifT hM hb2
  refine Ct hb2 ?_
  refine Sq ?_
  refine Rg 5 ?_
  refine Om (.i r1.2) ?_
  refine Oa (.i 0) ?_
  refine Oa (.i 0) ?_
  refine Oa (.i 0) ?_
  refine Oa (.i r1.2) ?_
  refine Ni ?_
  refine Ws ?_
  refine zaR ?_
  refine zam ?_
  refine zaZ (x:=.tup [.i 0,.i 0,.i 0,.i r1.2]) (f:=fun r=>.tup [.i r.1,.i r.2.1,.i r.2.2.1,.i r.2.2.2]) (.inr rfl) ?_ (.refl _) (Option.some.inj hM) hS
  exact (zpc (zae (x:=.i 0) rfl) (zae (x:=.i 0) rfl) (zae (x:=.i 0) rfl) (zae (x:=.i r1.2) rfl))
 ·replace hM:=ifF hM hb2
  refine Cf hb2 ?_
  refine zaD ?_
  refine Ws ?_
  refine Sq ?_
  refine Rg 5 ?_
  refine Om (pA Box_.cells r1.1) ?_
  refine Of ((Box.cells a0)) zfw ?_
  refine Olp (.sl .no 1 (a0.Marked.map cI)) zau zaO ?_
  obtain ⟨r3,hr3,hM⟩:=zai hM
  refine zaE (bs:=[pA Box_.cells r1.1,.sl .no 1 (a0.Marked.map cI)]) (by decide) rfl rfl ((zbo hr3).le (.k (.k .nil))) ?_
  refine Oa (.i r3) ?_
  refine Ni ?_
  refine Ws ?_
  refine Sq ?_
  have hS0:=hS
  refine zck (n:=15) rfl (by kernel_rfl) ?_
  refine Om (pA Box_.cells r1.1) ?_
  refine Of ((Box.cells a0)) zcU ?_
  refine Olp (.sl .no 1 (a0.Found.map cI)) zau zaO ?_
  obtain ⟨r4,hr4,hM⟩:=zai hM
  refine zaE (bs:=[pA Box_.cells r1.1,.sl .no 1 (a0.Found.map cI)]) (by decide) rfl rfl ((zbo hr4).le (.k (.k .nil))) ?_
  refine Om (.i r3) ?_
  refine Oi (.i (w64 (r4-r3))) ?_
  refine Om (.i r3) ?_
  refine Om (pA Box_.cells r1.1) ?_
  refine Of ((Box.cells a0)) zd9 ?_
  refine Olp (.sl .no 1 (a0.Slugs.map cI)) zau zaO ?_
  obtain ⟨r5,hr5,hM⟩:=zai hM
  refine zaE (bs:=[pA Box_.cells r1.1,.sl .no 1 (a0.Slugs.map cI)]) (by decide) rfl rfl ((zbo hr5).le (.k (.k .nil))) ?_
  refine Oa (.i (w64 (r4-r3))) ?_
  refine Oa (.i r3) ?_
  refine Oa (.i r5) ?_
  refine Oa (.i 0) ?_
  refine Ni ?_
  refine zeF [(2,.i (w64 (r4-r3))),(3,.i r3),(4,.i r5),(5,.i 0)] (.k (.k (.k (.k .nil)))) ?_
  refine zaR ?_
  refine zaZ (x:=.tup [.i (w64 (r4-r3)),.i r3,.i r5,.i 0]) (f:=fun r=>.tup [.i r.1,.i r.2.1,.i r.2.2.1,.i r.2.2.2]) (.inr rfl) ?_ (.refl _) (Option.some.inj hM) hS
  exact (zpc (zae (x:=.i (w64 (r4-r3))) rfl) (zae (x:=.i r3) rfl) (zae (x:=.i r5) rfl) (zae (x:=.i 0) rfl))
theorem zj2 {n:Nat} {a0:List Int} {a1:List Int} {r:Bool} (hM:zfc n a0 a1=some r):zaH Try.prog 21 [.sl .no 1 (a0.map cI),.sl .no 1 (a1.map cI)] (.b r):=by
 refine zak mixed Try.func21 rfl (by decide) Try.ntmps21 (by simp) ?pure fun H0 g hf=>?_
 case pure=>exact .v _
 rw [zag]
 change wpA _ _ _ _ (Fr.of [(0,.sl .no 1 (a0.map cI)),(1,.sl .no 1 (a1.map cI))]) H0 g
 have hS:=St.start hf
 refine Sq ?_
 refine Rg 1 ?_
 refine Oa (.b false) ?_
 refine Ni ?_
 refine Ws ?_
 refine Sq ?_
 refine Sq ?_
 refine Rg 5 ?_
 refine Om (.sl .no 1 (a0.map cI)) ?_
 refine zbA (n:=a0.length) (by decide) rfl (List.length_map _) zaB ?_
 refine Om (.sl .no 1 (a1.map cI)) ?_
 refine zbA (n:=a1.length) (by decide) rfl (List.length_map _) zaB ?_
 refine Oi (.b ((a0.length:Int) != (a1.length:Int))) ?_
 refine Ni ?_
 refine Ws ?_
 rcases bft ((a0.length:Int) != (a1.length:Int)) with hb1 | hb1
 ·replace hM:=ifT hM hb1
  refine Ct hb1 ?_
  refine Sq ?_
  refine Rg 1 ?_
  refine Oa (.b false) ?_
  refine Ni ?_
  refine Ws ?_
  refine zaR ?_
  refine zam ?_
  refine zaZ (x:=.b false) (f:=fun r=>.b r) (.inr rfl) ?_ (.refl _) (Option.some.inj hM) hS
  exact (zax (zae (x:=.b false) rfl))
 ·replace hM:=ifF hM hb1
  refine Cf hb1 ?_
  refine zaD ?_
  refine Ws ?_
  refine za1 (J:=Unit) (fun j=>[]) (fun j H' g'=>St (·<g) H0 [] H' g'/\zdW=some r) ?_ ?_
  ·rintro _ H g1 ⟨hS,hM⟩
   change wpA _ _ _ _ (Fr.of []) _ _
   replace hS:St (·<g) H0 [] H g1:=hS
   replace hM:zdW=some r:=hM
   refine Sq ?_
   refine Rg 1 ?_
   refine Oa (.b true) ?_
   refine Ni ?_
   refine Ws ?_
   refine zaR ?_
   refine zaZ (x:=.b true) (f:=fun r=>.b r) (.inr rfl) ?_ (.refl _) (Option.some.inj hM) hS
   exact (zax (zae (x:=.b true) rfl))
  ·refine Sq ?_
   refine Rg 1 ?_
   refine Oa (.i 0) ?_
   refine Ni ?_
   refine Ws ?_
   refine zaK ?_
   refine zct (V:=Int) (fun v=>[(0,.sl .no 1 (a0.map cI)),(1,.sl .no 1 (a1.map cI)),(5,.i v)]) (fun v m2 H' g'=>St (·<g) H0 [] H' g'/\zbK a0 a1 m2 v=some r) (n:=n) 0 (.k (.k (.k .nil))) ⟨(hS.keep [] rfl).up (by omega),hM⟩ ?_
   rintro v2 m2 H g2 ⟨hS,hM⟩
   obtain _ | m2:=m2
   ·exact nomatch (show none=some _ from hM)
   change wpA _ _ _ _ (Fr.of [(0,.sl .no 1 (a0.map cI)),(1,.sl .no 1 (a1.map cI)),(5,.i v2)]) _ _
   replace hS:St (·<g) H0 [] H g2:=hS
   replace hM:zdf a0 a1 (zbK a0 a1 m2) v2=some r:=hM
   refine Sq ?_
   refine Sq ?_
   refine Rg 4 ?_
   refine Om (.i v2) ?_
   refine Om (.sl .no 1 (a0.map cI)) ?_
   refine zbA (n:=a0.length) (by decide) rfl (List.length_map _) zaB ?_
   refine Oi (.b (decide (v2<(a0.length:Int)))) ?_
   refine Ni ?_
   refine Ws ?_
   rcases bft (decide (v2<(a0.length:Int))) with hb3 | hb3
   ·replace hM:=ifT hM hb3
    refine Ct hb3 ?_
    refine zaD ?_
    refine Ws ?_
    refine Sq ?_
    refine zaK ?_
    refine Sq ?_
    have hS0:=hS
    refine zck (n:=9) rfl (by kernel_rfl) ?_
    refine Om (.sl .no 1 (a0.map cI)) ?_
    refine Om (.i v2) ?_
    obtain ⟨x4,hx4,hM⟩:=zai hM
    refine za5 (xs:=a0) (f:=cI) (z:=v2) (u:=x4) (by decide) rfl rfl zay hx4 ?_
    refine Olp (.i x4) zah zar ?_
    refine Om (.sl .no 1 (a1.map cI)) ?_
    refine Om (.i v2) ?_
    obtain ⟨x5,hx5,hM⟩:=zai hM
    refine za5 (xs:=a1) (f:=cI) (z:=v2) (u:=x5) (by decide) rfl rfl zay hx5 ?_
    refine Olp (.i x5) zah zar ?_
    refine Oi (.b (x4 != x5)) ?_
    refine Ni ?_
    refine Ws ?_
    rcases bft (x4 != x5) with hb6 | hb6
    ·replace hM:=ifT hM hb6
     refine Ct hb6 ?_
     refine Sq ?_
     refine Rg 1 ?_
     refine Oa (.b false) ?_
     refine Ni ?_
     refine Ws ?_
     refine zaR ?_
     refine za2 ?_
     refine zam ?_
     refine zb9 ?_
     refine za2 ?_
     refine zcD ?_
     refine zaZ (x:=.b false) (f:=fun r=>.b r) (.inr rfl) ?_ (.refl _) (Option.some.inj hM) hS
     exact (zax (zae (x:=.b false) rfl))
    ·replace hM:=ifF hM hb6
     refine Cf hb6 ?_
     refine zaD ?_
     refine zat ?_
     refine Ws ?_
     refine Rg 3 ?_
     refine Om (.i v2) ?_
     refine Oi (.i (w64 (v2+1))) ?_
     refine Oa (.i (w64 (v2+1))) ?_
     refine Ni ?_
     exact zbq (w64 (v2+1)) (Nat.lt_succ_self _) (.k (.k (.k .nil))) ⟨(hS.keep [] rfl).up (by omega),hM⟩
   ·replace hM:=ifF hM hb3
    refine Cf hb3 ?_
    refine zb1 ?_
    refine zaA ?_
    refine zaz ?_
    refine zaL ?_
    exact zal () .nil ⟨(hS.keep [] rfl).up (by omega),hM⟩
theorem zj3 {n:Nat} {a0:List Int} {r:Int} (hM:slices_Max_int n a0=some r):zaH Try.prog 73 [.sl .no 1 (a0.map cI)] (.i r):=by
 refine zak mixed Try.func73 rfl (by decide) Try.ntmps73 (by simp) ?pure fun H0 g hf=>?_
 case pure=>exact .v _
 rw [zag]
 change wpA _ _ _ _ (Fr.of [(0,.sl .no 1 (a0.map cI))]) H0 g
 have hS:=St.start hf
 refine Sq ?_
 refine Rg 1 ?_
 refine Oa (.i 0) ?_
 refine Ni ?_
 refine Ws ?_
 refine za1 (J:=Unit) (fun j=>[(0,.sl .no 1 (a0.map cI))]) (fun j H' g'=>St (·<g) H0 [] H' g'/\zdY n a0=some r) ?_ ?_
 ·rintro _ H g1 ⟨hS,hM⟩
  change wpA _ _ _ _ (Fr.of [(0,.sl .no 1 (a0.map cI))]) _ _
  replace hS:St (·<g) H0 [] H g1:=hS
  replace hM:zdY n a0=some r:=hM
  refine Sq ?_
  refine Rg 4 ?_
  refine Om (.sl .no 1 (a0.map cI)) ?_
  obtain ⟨x1,hx1,hM⟩:=zai hM
  refine za5 (xs:=a0) (f:=cI) (z:=0) (u:=x1) (by decide) rfl rfl zay hx1 ?_
  refine Olp (.i x1) zah zar ?_
  refine Oa (.i x1) ?_
  refine Ni ?_
  refine Ws ?_
  refine za1 (J:=Int) (fun j=>[(3,.i j)]) (fun j H' g'=>St (·<g) H0 [] H' g'/\zdX j=some r) ?_ ?_
  ·rintro v2 H g2 ⟨hS,hM⟩
   change wpA _ _ _ _ (Fr.of [(3,.i v2)]) _ _
   replace hS:St (·<g) H0 [] H g2:=hS
   replace hM:zdX v2=some r:=hM
   refine Sq ?_
   refine Rg 2 ?_
   refine Om (.i v2) ?_
   refine Oa (.i v2) ?_
   refine Ni ?_
   refine Ws ?_
   refine zaR ?_
   refine zaZ (x:=.i v2) (f:=fun r=>.i r) (.inr rfl) ?_ (.refl _) (Option.some.inj hM) hS
   exact (zax (zae (x:=.i v2) rfl))
  ·refine Sq ?_
   refine Rg 1 ?_
   refine Oa (.i 1) ?_
   refine Ni ?_
   refine Ws ?_
   refine zaK ?_
   refine zct (V:=Int×Int) (fun v=>[(0,.sl .no 1 (a0.map cI)),(3,.i v.1),(4,.i v.2)]) (fun v m3 H' g'=>St (·<g) H0 [] H' g'/\zcc a0 m3 v.1 v.2=some r) (n:=n) (x1,1) (.k (.k (.k .nil))) ⟨(hS.keep [] rfl).up (by omega),hM⟩ ?_
   rintro ⟨v3,v4⟩ m3 H g3 ⟨hS,hM⟩
   obtain _ | m3:=m3
   ·exact nomatch (show none=some _ from hM)
   change wpA _ _ _ _ (Fr.of [(0,.sl .no 1 (a0.map cI)),(3,.i v3),(4,.i v4)]) _ _
   replace hS:St (·<g) H0 [] H g3:=hS
   replace hM:zdg a0 (zcc a0 m3) v3 v4=some r:=hM
   refine Sq ?_
   refine Sq ?_
   refine Rg 4 ?_
   refine Om (.i v4) ?_
   refine Om (.sl .no 1 (a0.map cI)) ?_
   refine zbA (n:=a0.length) (by decide) rfl (List.length_map _) zaB ?_
   refine Oi (.b (decide (v4<(a0.length:Int)))) ?_
   refine Ni ?_
   refine Ws ?_
   rcases bft (decide (v4<(a0.length:Int))) with hb5 | hb5
   ·replace hM:=ifT hM hb5
    refine Ct hb5 ?_
    refine zaD ?_
    refine Ws ?_
    refine Sq ?_
    refine zaK ?_
    refine Rg 7 ?_
    refine Om (.i v3) ?_
    refine Om (.sl .no 1 (a0.map cI)) ?_
    refine Om (.i v4) ?_
    obtain ⟨x6,hx6,hM⟩:=zai hM
    refine za5 (xs:=a0) (f:=cI) (z:=v4) (u:=x6) (by decide) rfl rfl zay hx6 ?_
    refine Olp (.i x6) zah zar ?_
    refine ztr (v:=.i (max v3 x6)) (by decide) rfl ?_
    refine Oa (.i (max v3 x6)) ?_
    refine Ni ?_
    refine zat ?_
    refine Ws ?_
    refine Rg 3 ?_
    refine Om (.i v4) ?_
    refine Oi (.i (w64 (v4+1))) ?_
    refine Oa (.i (w64 (v4+1))) ?_
    refine Ni ?_
    exact zbq ((max v3 x6),w64 (v4+1)) (Nat.lt_succ_self _) (.k (.k (.k .nil))) ⟨(hS.keep [] rfl).up (by omega),hM⟩
   ·replace hM:=ifF hM hb5
    refine Cf hb5 ?_
    refine zb1 ?_
    refine zaA ?_
    refine zaz ?_
    refine zaL ?_
    exact zal v3 (.k .nil) ⟨(hS.keep [] rfl).up (by omega),hM⟩
 ·refine Sq ?_
  refine Rg 3 ?_
  refine Om (.sl .no 1 (a0.map cI)) ?_
  refine zbA (n:=a0.length) (by decide) rfl (List.length_map _) zaB ?_
  refine Oi (.b (decide ((a0.length:Int)<1))) ?_
  refine Ni ?_
  refine Ws ?_
  rcases bft (decide ((a0.length:Int)<1)) with hb7 | hb7
  ·replace hM:=ifT hM hb7
   refine Ct hb7 ?_
   refine Rg 2 ?_
   exact nomatch (show none=some _ from hM)
  ·replace hM:=ifF hM hb7
   refine Cf hb7 ?_
   refine zaD ?_
   exact zal () (.k .nil) ⟨(hS.keep [] rfl).up (by omega),hM⟩
theorem zld {n:Nat} {a0:Box} {r:Int×Int} (hM:zfL n a0=some r):zaH Try.prog 39 [.agg (Box.cells a0)] (.tup [.i r.1,.i r.2]):=by
 refine zak mixed Try.func39 rfl (by decide) Try.ntmps39 (by simp) ?pure fun H0 g hf=>?_
 case pure=>exact .tup _ (zab (.v _) (zab (.v _) zaF))
 rw [zag]
 change wpA _ _ _ _ (Fr.of [(0,.agg (Box.cells a0))]) H0 g
 have hS:=St.start hf
 refine Sq ?_
 refine Rg 3 ?_
 refine zb4 (v:=.agg (Box.cells a0)) (cs:=(Box.cells a0)) hS (by decide) rfl rfl (by omega) fun H hS=>?_
 refine Oa (.i 0) ?_
 refine Oa (.i 0) ?_
 refine Ni ?_
 refine zaX (L':=[]) 0 1 hS rfl rfl rfl fun H hS=>?_
 refine Ws ?_
 refine Sq ?_
 refine Rg 7 ?_
 refine Olg (.agg (Box.cells a0)) zcj ?_
 obtain ⟨r1,hr1,hM⟩:=zai hM
 refine zaE (bs:=[.agg (Box.cells a0)]) (by decide) rfl rfl ((zfi hr1).le (.k .nil)) ?_
 refine Om (.tup [pA Box_.cells r1.1,.i r1.2]) ?_
 refine Ox (pA Box_.cells r1.1) ?_
 refine Ox (.i r1.2) ?_
 refine Oa (pA Box_.cells r1.1) ?_
 refine Oa (.i r1.2) ?_
 refine Ni ?_
 refine Ws ?_
 refine Sq ?_
 refine Sq ?_
 refine Rg 2 ?_
 refine Om (.i r1.2) ?_
 refine Oi (.b (r1.2 != 0)) ?_
 refine Ni ?_
 refine Ws ?_
 rcases bft (r1.2 != 0) with hb2 | hb2
 ·replace hM:=ifT hM hb2
  refine Ct hb2 ?_
  refine Sq ?_
  refine Rg 3 ?_
  refine Om (.i r1.2) ?_
  refine Oa (.i 0) ?_
  refine Oa (.i r1.2) ?_
  refine Ni ?_
  refine Ws ?_
  refine zaR ?_
  refine zam ?_
  refine zaZ (x:=.tup [.i 0,.i r1.2]) (f:=fun r=>.tup [.i r.1,.i r.2]) (.inr rfl) ?_ (.refl _) (Option.some.inj hM) hS
  exact (zcl (zae (x:=.i 0) rfl) (zae (x:=.i r1.2) rfl))
 ·replace hM:=ifF hM hb2
  refine Cf hb2 ?_
  refine zaD ?_
  refine Ws ?_
  refine Sq ?_
  have hS0:=hS
  refine zck (n:=9) rfl (by kernel_rfl) ?_
  refine Of ((Box.cells a0)) zhF ?_
  refine Olp (.i a0.Plays) zah zar ?_
  refine Om (pA Box_.cells r1.1) ?_
  obtain ⟨r3,hr3,hM⟩:=zai hM
  refine zaE (bs:=[pA Box_.cells r1.1]) (by decide) rfl rfl ((zgQ hr3).le (.k .nil)) ?_
  obtain ⟨r4,hr4,hM⟩:=zai hM
  refine zaE (bs:=[.sl .no 1 (r3.map cI)]) (by decide) rfl rfl ((zj3 hr4).le (.k .nil)) ?_
  refine Oi (.i (w64 (a0.Plays-r4))) ?_
  refine ztr (v:=.i (max 0 (w64 (a0.Plays-r4)))) (by decide) rfl ?_
  refine Oa (.i (max 0 (w64 (a0.Plays-r4)))) ?_
  refine Oa (.i 0) ?_
  refine Ni ?_
  refine zeF [(2,.i (max 0 (w64 (a0.Plays-r4)))),(3,.i 0)] (.k (.k .nil)) ?_
  refine zaR ?_
  refine zaZ (x:=.tup [.i (max 0 (w64 (a0.Plays-r4))),.i 0]) (f:=fun r=>.tup [.i r.1,.i r.2]) (.inr rfl) ?_ (.refl _) (Option.some.inj hM) hS
  exact (zcl (zae (x:=.i (max 0 (w64 (a0.Plays-r4)))) rfl) (zae (x:=.i 0) rfl))
theorem zle {r:Wheel} (hM:ziL=some r):zaH Try.prog 95 [] (.agg [.i r.Round,.sl .no 1 (r.Notches.map cI),.sl .no 1 (r.Coins.map cI)]):=by
 refine zak mixed Try.func95 rfl (by decide) Try.ntmps95 (by simp) ?pure fun H0 g hf=>?_
 case pure=>exact .agg _ (zab (.v _) (zab (.sl _ _ (zav (fun x=>(zab (.v _) zaF)))) (zab (.sl _ _ (zav (fun x=>(zab (.v _) zaF)))) zaF)))
 rw [zag]
 change wpA _ _ _ _ (Fr.of []) H0 g
 have hS:=St.start hf
 refine Sq ?_
 refine Rg 1 ?_
 refine za3 hS (by decide) ziT (by omega) fun H hS=>?_
 refine Ni ?_
 refine Ws ?_
 refine Sq ?_
 refine Rg 4 ?_
 refine zaW (es:=[[.i 10],[.i 20],[.i 25]]) hS (by decide) zay zbn rfl zbi rfl (by decide) (by omega) fun H hS=>?_
 refine zaW (es:=[[.i 5],[.i 10],[.i 25]]) hS (by decide) zay zbn rfl zbi rfl (by decide) (by omega) fun H hS=>?_
 refine zbx (cs:=[.i 50,.sl (.id (g+1+0)) 1 (([10,20,25]:List Int).map cI),.sl (.id (g+1+1)) 1 (([5,10,25]:List Int).map cI)]) (by decide) ziT zr6 rfl ?_
 refine zaJ (v:=.agg [.i 50,.sl (.id (g+1+0)) 1 (([10,20,25]:List Int).map cI),.sl (.id (g+1+1)) 1 (([5,10,25]:List Int).map cI)]) (ns:=[.i 50,.sl (.id (g+1+0)) 1 (([10,20,25]:List Int).map cI),.sl (.id (g+1+1)) 1 (([5,10,25]:List Int).map cI)]) (L':=[(g+1+1,.row 3 3),(g+1+0,.row 3 3),(g+0,.cells [.i 50,.sl (.id (g+1+0)) 1 (([10,20,25]:List Int).map cI),.sl (.id (g+1+1)) 1 (([5,10,25]:List Int).map cI)])]) 2 hS rfl rfl .no rfl rfl zmA nlb rfl fun H hS=>?_
 refine Ni ?_
 refine zeF [(0,.ptr (g+0) 0)] (.k .nil) ?_
 refine zaR ?_
 refine zaZ (x:=.agg [.i 50,.sl (.id (g+1+0)) 1 (([10,20,25]:List Int).map cI),.sl (.id (g+1+1)) 1 (([5,10,25]:List Int).map cI)]) (f:=fun r=>.agg [.i r.Round,.sl .no 1 (r.Notches.map cI),.sl .no 1 (r.Coins.map cI)]) (.inr rfl) ?_ (.aggL (.k (.cons (.sl _ _ _) (.cons (.sl _ _ _) .nil)))) (Option.some.inj hM) hS
 exact (zax (zcA (x:=.agg [.i 50,.sl (.id (g+1+0)) 1 (([10,20,25]:List Int).map cI),.sl (.id (g+1+1)) 1 (([5,10,25]:List Int).map cI)]) 2 hS rfl rfl (pg zbk)))
theorem zlf {r:Box} (hM:zg9=some r):zaH Try.prog 58 [] (.agg [.i r.Wheel.Round,.sl .no 1 (r.Wheel.Notches.map cI),.sl .no 1 (r.Wheel.Coins.map cI),.sl .no 1 (r.Found.map cI),.sl .no 1 (r.Marked.map cI),.sl .no 1 (r.Slugs.map cI),.i r.Plays,.i r.Skips]):=by
 refine zak mixed Try.func58 rfl (by decide) Try.ntmps58 (by simp) ?pure fun H0 g hf=>?_
 case pure=>exact .agg _ (zab (.v _) (zab (.sl _ _ (zav (fun x=>(zab (.v _) zaF)))) (zab (.sl _ _ (zav (fun x=>(zab (.v _) zaF)))) (zab (.sl _ _ (zav (fun x=>(zab (.v _) zaF)))) (zab (.sl _ _ (zav (fun x=>(zab (.v _) zaF)))) (zab (.sl _ _ (zav (fun x=>(zab (.v _) zaF)))) (zab (.v _) (zab (.v _) zaF))))))))
 rw [zag]
 change wpA _ _ _ _ (Fr.of []) H0 g
 have hS:=St.start hf
 refine Sq ?_
 refine Rg 1 ?_
 refine za3 hS (by decide) zf7 (by omega) fun H hS=>?_
 refine Ni ?_
 refine Ws ?_
 refine Sq ?_
 refine Rg 6 ?_
 obtain ⟨r1,hr1,hM⟩:=zai hM
 refine zaE (bs:=[]) (by decide) rfl rfl ((zle hr1).le .nil) ?_
 refine zaW (es:=[[.i 0],[.i 2],[.i 1]]) hS (by decide) zay zbn rfl zbi rfl (by decide) (by omega) fun H hS=>?_
 refine zaW (es:=[[.i 0],[.i 1],[.i 0]]) hS (by decide) zay zbn rfl zbi rfl (by decide) (by omega) fun H hS=>?_
 refine zaW (es:=[[.i 0],[.i 0],[.i 0]]) hS (by decide) zay zbn rfl zbi rfl (by decide) (by omega) fun H hS=>?_
 refine zbx (cs:=[.i r1.Round,.sl .no 1 (r1.Notches.map cI),.sl .no 1 (r1.Coins.map cI),.sl (.id (g+1+1)) 1 (([0,2,1]:List Int).map cI),.sl (.id (g+1+2)) 1 (([0,1,0]:List Int).map cI),.sl (.id (g+1+3)) 1 (([0,0,0]:List Int).map cI),.i 6,.i 0]) (by decide) zf7 zr7 rfl ?_
 refine zaJ (v:=.agg [.i r1.Round,.sl .no 1 (r1.Notches.map cI),.sl .no 1 (r1.Coins.map cI),.sl (.id (g+1+1)) 1 (([0,2,1]:List Int).map cI),.sl (.id (g+1+2)) 1 (([0,1,0]:List Int).map cI),.sl (.id (g+1+3)) 1 (([0,0,0]:List Int).map cI),.i 6,.i 0]) (ns:=[.i r1.Round,.sl .no 1 (r1.Notches.map cI),.sl .no 1 (r1.Coins.map cI),.sl (.id (g+1+1)) 1 (([0,2,1]:List Int).map cI),.sl (.id (g+1+2)) 1 (([0,1,0]:List Int).map cI),.sl (.id (g+1+3)) 1 (([0,0,0]:List Int).map cI),.i 6,.i 0]) (L':=[(g+1+3,.row 3 3),(g+1+2,.row 3 3),(g+1+1,.row 3 3),(g+0,.cells [.i r1.Round,.sl .no 1 (r1.Notches.map cI),.sl .no 1 (r1.Coins.map cI),.sl (.id (g+1+1)) 1 (([0,2,1]:List Int).map cI),.sl (.id (g+1+2)) 1 (([0,1,0]:List Int).map cI),.sl (.id (g+1+3)) 1 (([0,0,0]:List Int).map cI),.i 6,.i 0])]) 3 hS rfl rfl .no rfl rfl ziU nlb rfl fun H hS=>?_
 refine Ni ?_
 refine zeF [(0,.ptr (g+0) 0)] (.k .nil) ?_
 refine zaR ?_
 refine zaZ (x:=.agg [.i r1.Round,.sl .no 1 (r1.Notches.map cI),.sl .no 1 (r1.Coins.map cI),.sl (.id (g+1+1)) 1 (([0,2,1]:List Int).map cI),.sl (.id (g+1+2)) 1 (([0,1,0]:List Int).map cI),.sl (.id (g+1+3)) 1 (([0,0,0]:List Int).map cI),.i 6,.i 0]) (f:=fun r=>.agg [.i r.Wheel.Round,.sl .no 1 (r.Wheel.Notches.map cI),.sl .no 1 (r.Wheel.Coins.map cI),.sl .no 1 (r.Found.map cI),.sl .no 1 (r.Marked.map cI),.sl .no 1 (r.Slugs.map cI),.i r.Plays,.i r.Skips]) (.inr rfl) ?_ (.aggL (.k (.k (.k (.cons (.sl _ _ _) (.cons (.sl _ _ _) (.cons (.sl _ _ _) (.k (.k .nil))))))))) (Option.some.inj hM) hS
 exact (zax (zcA (x:=.agg [.i r1.Round,.sl .no 1 (r1.Notches.map cI),.sl .no 1 (r1.Coins.map cI),.sl (.id (g+1+1)) 1 (([0,2,1]:List Int).map cI),.sl (.id (g+1+2)) 1 (([0,1,0]:List Int).map cI),.sl (.id (g+1+3)) 1 (([0,0,0]:List Int).map cI),.i 6,.i 0]) 3 hS rfl rfl (pg zcj)))
theorem zhg {n:Nat} {r:Bool} (hM:ze0 n=some r):zaH Try.prog 16 [] (.b r):=by
 refine zak mixed Try.func16 rfl (by decide) Try.ntmps16 (by simp) ?pure fun H0 g hf=>?_
 case pure=>exact .v _
 rw [zag]
 change wpA _ _ _ _ (Fr.of []) H0 g
 have hS:=St.start hf
 refine Sq ?_
 refine Rg 1 ?_
 refine Oa (.b false) ?_
 refine Ni ?_
 refine Ws ?_
 refine Sq ?_
 refine Rg 3 ?_
 obtain ⟨r1,hr1,hM⟩:=zai hM
 refine zaE (bs:=[]) (by decide) rfl rfl ((zlf hr1).le .nil) ?_
 refine za3 hS (by decide) zf7 (by omega) fun H hS=>?_
 refine zaJ (v:=.agg (Box.cells r1)) (ns:=(Box.cells r1)) (L':=[(g+1+1,.cells (Box.cells r1))]) 0 hS rfl rfl .no rfl rfl ziU nlb rfl fun H hS=>?_
 refine Ni ?_
 refine zaX (L':=[]) 0 1 hS rfl rfl rfl fun H hS=>?_
 refine Ws ?_
 refine Sq ?_
 refine Rg 7 ?_
 refine Olg (.agg (Box.cells r1)) zcj ?_
 obtain ⟨r2,hr2,hM⟩:=zai hM
 refine zaE (bs:=[.agg (Box.cells r1)]) (by decide) rfl rfl ((zje hr2).le (.k .nil)) ?_
 refine Om (.tup [.sl .no 1 (r2.1.map cI),.i r2.2]) ?_
 refine Ox (.sl .no 1 (r2.1.map cI)) ?_
 refine Ox (.i r2.2) ?_
 refine Oa (.sl .no 1 (r2.1.map cI)) ?_
 refine Oa (.i r2.2) ?_
 refine Ni ?_
 refine Ws ?_
 refine Sq ?_
 refine Rg 11 ?_
 refine Olg (.agg (Box.cells r1)) zcj ?_
 obtain ⟨r3,hr3,hM⟩:=zai hM
 refine zaE (bs:=[.agg (Box.cells r1)]) (by decide) rfl rfl ((zlC hr3).le (.k .nil)) ?_
 refine Om (.tup [.i r3.1,.i r3.2.1,.i r3.2.2.1,.i r3.2.2.2]) ?_
 refine Ox (.i r3.1) ?_
 refine Ox (.i r3.2.1) ?_
 refine Ox (.i r3.2.2.1) ?_
 refine Ox (.i r3.2.2.2) ?_
 refine Oa (.i r3.1) ?_
 refine Oa (.i r3.2.1) ?_
 refine Oa (.i r3.2.2.1) ?_
 refine Oa (.i r3.2.2.2) ?_
 refine Ni ?_
 refine Ws ?_
 refine Sq ?_
 refine Rg 7 ?_
 refine Olg (.agg (Box.cells r1)) zcj ?_
 obtain ⟨r4,hr4,hM⟩:=zai hM
 refine zaE (bs:=[.agg (Box.cells r1)]) (by decide) rfl rfl ((zjA hr4).le (.k .nil)) ?_
 refine Om (.tup [.i r4.1,.i r4.2]) ?_
 refine Ox (.i r4.1) ?_
 refine Ox (.i r4.2) ?_
 refine Oa (.i r4.1) ?_
 refine Oa (.i r4.2) ?_
 refine Ni ?_
 refine Ws ?_
 refine Sq ?_
 refine Rg 7 ?_
 refine Olg (.agg (Box.cells r1)) zcj ?_
 obtain ⟨r5,hr5,hM⟩:=zai hM
 refine zaE (bs:=[.agg (Box.cells r1)]) (by decide) rfl rfl ((zld hr5).le (.k .nil)) ?_
 refine Om (.tup [.i r5.1,.i r5.2]) ?_
 refine Ox (.i r5.1) ?_
 refine Ox (.i r5.2) ?_
 refine Oa (.i r5.1) ?_
 refine Oa (.i r5.2) ?_
 refine Ni ?_
 refine Ws ?_
 refine za1 (J:=Bool) (fun j=>[(0,.b j)]) (fun j H' g'=>St (·<g) H0 [] H' g'/\zbz j=some r) ?_ ?_
 ·rintro v6 H g1 ⟨hS,hM⟩
  change wpA _ _ _ _ (Fr.of [(0,.b v6)]) _ _
  replace hS:St (·<g) H0 [] H g1:=hS
  replace hM:zbz v6=some r:=hM
  refine zaR ?_
  refine zaZ (x:=.b v6) (f:=fun r=>.b r) (.inr rfl) ?_ (.refl _) (Option.some.inj hM) hS
  exact (zax (zae (x:=.b v6) rfl))
 ·refine Rg 36 ?_
  refine Om (.i r2.2) ?_
  refine Oi (.b (r2.2==0)) ?_
  refine Om (.b (r2.2==0)) ?_
  rcases bft (r2.2==0) with hb7 | hb7
  ·replace hM:=ifT hM hb7
   refine Oy (want:=true) hb7 ?_
   refine Om (.i r3.2.2.2) ?_
   refine Oy (want:=true) hb7 ?_
   refine Oi (.b (r3.2.2.2==0)) ?_
   refine Pt (.b (r3.2.2.2==0)) hb7 ?_
   refine Om (.b (r3.2.2.2==0)) ?_
   rcases bft (r3.2.2.2==0) with hb8 | hb8
   ·replace hM:=ifT hM hb8
    refine Oy (want:=true) hb8 ?_
    refine Om (.i r4.2) ?_
    refine Oy (want:=true) hb8 ?_
    refine Oi (.b (r4.2==0)) ?_
    refine Pt (.b (r4.2==0)) hb8 ?_
    refine Om (.b (r4.2==0)) ?_
    rcases bft (r4.2==0) with hb9 | hb9
    ·replace hM:=ifT hM hb9
     refine Oy (want:=true) hb9 ?_
     refine Om (.i r5.2) ?_
     refine Oy (want:=true) hb9 ?_
     refine Oi (.b (r5.2==0)) ?_
     refine Pt (.b (r5.2==0)) hb9 ?_
     refine Om (.b (r5.2==0)) ?_
     rcases bft (r5.2==0) with hb10 | hb10
     ·replace hM:=ifT hM hb10
      refine Oy (want:=true) hb10 ?_
      refine Om (.sl .no 1 (r2.1.map cI)) ?_
      refine Oy (want:=true) hb10 ?_
      refine zaW (es:=[[.i 3],[.i 4],[.i 5]]) hS (by decide) zay zbn rfl zbi rfl (by decide) (by omega) fun H hS=>?_
      refine Oy (want:=true) hb10 ?_
      obtain ⟨r11,hr11,hM⟩:=zai hM
      refine zaE (bs:=[.sl .no 1 (r2.1.map cI),.sl (.id (g+1+3+7+11+7+7+16)) 1 (([3,4,5]:List Int).map cI)]) (by decide) rfl rfl ((zj2 hr11).le (.k (.cons (.sl _ _ _) .nil))) ?_
      refine Pt (.b r11) hb10 ?_
      refine Om (.b r11) ?_
      rcases bft r11 with hb12 | hb12
      ·replace hM:=ifT hM hb12
       refine Oy (want:=true) hb12 ?_
       refine Om (.i r3.1) ?_
       refine Oy (want:=true) hb12 ?_
       refine Oi (.b (r3.1==35)) ?_
       refine Pt (.b (r3.1==35)) hb12 ?_
       refine Om (.b (r3.1==35)) ?_
       rcases bft (r3.1==35) with hb13 | hb13
       ·replace hM:=ifT hM hb13
        refine Oy (want:=true) hb13 ?_
        refine Om (.i r3.2.1) ?_
        refine Oy (want:=true) hb13 ?_
        refine Oi (.b (r3.2.1==10)) ?_
        refine Pt (.b (r3.2.1==10)) hb13 ?_
        refine Om (.b (r3.2.1==10)) ?_
        rcases bft (r3.2.1==10) with hb14 | hb14
        ·replace hM:=ifT hM hb14
         refine Oy (want:=true) hb14 ?_
         refine Om (.i r4.1) ?_
         refine Oy (want:=true) hb14 ?_
         refine Oi (.b (r4.1==5)) ?_
         refine Pt (.b (r4.1==5)) hb14 ?_
         refine Om (.b (r4.1==5)) ?_
         rcases bft (r4.1==5) with hb15 | hb15
         ·replace hM:=ifT hM hb15
          refine Oy (want:=true) hb15 ?_
          refine Om (.i r5.1) ?_
          refine Oy (want:=true) hb15 ?_
          refine Oi (.b (r5.1==1)) ?_
          refine Pt (.b (r5.1==1)) hb15 ?_
          refine Oa (.b (r5.1==1)) ?_
          refine Ni ?_
          exact zal (r5.1==1) (.k .nil) ⟨(hS.keep [false] rfl).up (by omega),hM⟩
         ·replace hM:=ifF hM hb15
          refine On (want:=true) hb15 ?_
          refine On (want:=true) hb15 ?_
          refine Pf (.b false) hb15 ?_
          refine Oa (.b false) ?_
          refine Ni ?_
          exact zal false (.k .nil) ⟨(hS.keep [false] rfl).up (by omega),hM⟩
        ·replace hM:=ifF hM hb14
         refine On (want:=true) hb14 ?_
         refine On (want:=true) hb14 ?_
         refine Pf (.b false) hb14 ?_
         refine Om (.b false) ?_
         refine Og ?_
         refine Og ?_
         refine zaS (v:=.b false) (e:=false) (by decide) rfl rfl rfl ?_
         refine Oa (.b false) ?_
         refine Ni ?_
         exact zal false (.k .nil) ⟨(hS.keep [false] rfl).up (by omega),hM⟩
       ·replace hM:=ifF hM hb13
        refine On (want:=true) hb13 ?_
        refine On (want:=true) hb13 ?_
        refine Pf (.b false) hb13 ?_
        refine Om (.b false) ?_
        refine Og ?_
        refine Og ?_
        refine zaS (v:=.b false) (e:=false) (by decide) rfl rfl rfl ?_
        refine Om (.b false) ?_
        refine Og ?_
        refine Og ?_
        refine zaS (v:=.b false) (e:=false) (by decide) rfl rfl rfl ?_
        refine Oa (.b false) ?_
        refine Ni ?_
        exact zal false (.k .nil) ⟨(hS.keep [false] rfl).up (by omega),hM⟩
      ·replace hM:=ifF hM hb12
       refine On (want:=true) hb12 ?_
       refine On (want:=true) hb12 ?_
       refine Pf (.b false) hb12 ?_
       refine Om (.b false) ?_
       refine Og ?_
       refine Og ?_
       refine zaS (v:=.b false) (e:=false) (by decide) rfl rfl rfl ?_
       refine Om (.b false) ?_
       refine Og ?_
       refine Og ?_
       refine zaS (v:=.b false) (e:=false) (by decide) rfl rfl rfl ?_
       refine Om (.b false) ?_
       refine Og ?_
       refine Og ?_
       refine zaS (v:=.b false) (e:=false) (by decide) rfl rfl rfl ?_
       refine Oa (.b false) ?_
       refine Ni ?_
       exact zal false (.k .nil) ⟨(hS.keep [false] rfl).up (by omega),hM⟩
     ·replace hM:=ifF hM hb10
      refine On (want:=true) hb10 ?_
      refine On (want:=true) hb10 ?_
      refine On (want:=true) hb10 ?_
      refine Pf (.b false) hb10 ?_
      refine Om (.b false) ?_
      refine Og ?_
      refine Og ?_
      refine zaS (v:=.b false) (e:=false) (by decide) rfl rfl rfl ?_
      refine Om (.b false) ?_
      refine Og ?_
      refine Og ?_
      refine zaS (v:=.b false) (e:=false) (by decide) rfl rfl rfl ?_
      refine Om (.b false) ?_
      refine Og ?_
      refine Og ?_
      refine zaS (v:=.b false) (e:=false) (by decide) rfl rfl rfl ?_
      refine Om (.b false) ?_
      refine Og ?_
      refine Og ?_
      refine zaS (v:=.b false) (e:=false) (by decide) rfl rfl rfl ?_
      refine Oa (.b false) ?_
      refine Ni ?_
      exact zal false (.k .nil) ⟨(hS.keep [] rfl).up (by omega),hM⟩
    ·replace hM:=ifF hM hb9
     refine On (want:=true) hb9 ?_
     refine On (want:=true) hb9 ?_
     refine Pf (.b false) hb9 ?_
     refine Om (.b false) ?_
     refine Og ?_
     refine Og ?_
     refine Og ?_
     refine zaS (v:=.b false) (e:=false) (by decide) rfl rfl rfl ?_
     refine Om (.b false) ?_
     refine Og ?_
     refine Og ?_
     refine zaS (v:=.b false) (e:=false) (by decide) rfl rfl rfl ?_
     refine Om (.b false) ?_
     refine Og ?_
     refine Og ?_
     refine zaS (v:=.b false) (e:=false) (by decide) rfl rfl rfl ?_
     refine Om (.b false) ?_
     refine Og ?_
     refine Og ?_
     refine zaS (v:=.b false) (e:=false) (by decide) rfl rfl rfl ?_
     refine Om (.b false) ?_
     refine Og ?_
     refine Og ?_
     refine zaS (v:=.b false) (e:=false) (by decide) rfl rfl rfl ?_
     refine Oa (.b false) ?_
     refine Ni ?_
     exact zal false (.k .nil) ⟨(hS.keep [] rfl).up (by omega),hM⟩
   ·replace hM:=ifF hM hb8
    refine On (want:=true) hb8 ?_
    refine On (want:=true) hb8 ?_
    refine Pf (.b false) hb8 ?_
    refine Om (.b false) ?_
    refine Og ?_
    refine Og ?_
    refine zaS (v:=.b false) (e:=false) (by decide) rfl rfl rfl ?_
    refine Om (.b false) ?_
    refine Og ?_
    refine Og ?_
    refine Og ?_
    refine zaS (v:=.b false) (e:=false) (by decide) rfl rfl rfl ?_
    refine Om (.b false) ?_
    refine Og ?_
    refine Og ?_
    refine zaS (v:=.b false) (e:=false) (by decide) rfl rfl rfl ?_
    refine Om (.b false) ?_
    refine Og ?_
    refine Og ?_
    refine zaS (v:=.b false) (e:=false) (by decide) rfl rfl rfl ?_
    refine Om (.b false) ?_
    refine Og ?_
    refine Og ?_
    refine zaS (v:=.b false) (e:=false) (by decide) rfl rfl rfl ?_
    refine Om (.b false) ?_
    refine Og ?_
    refine Og ?_
    refine zaS (v:=.b false) (e:=false) (by decide) rfl rfl rfl ?_
    refine Oa (.b false) ?_
    refine Ni ?_
    exact zal false (.k .nil) ⟨(hS.keep [] rfl).up (by omega),hM⟩
  ·replace hM:=ifF hM hb7
   refine On (want:=true) hb7 ?_
   refine On (want:=true) hb7 ?_
   refine Pf (.b false) hb7 ?_
   refine Om (.b false) ?_
   refine Og ?_
   refine Og ?_
   refine zaS (v:=.b false) (e:=false) (by decide) rfl rfl rfl ?_
   refine Om (.b false) ?_
   refine Og ?_
   refine Og ?_
   refine zaS (v:=.b false) (e:=false) (by decide) rfl rfl rfl ?_
   refine Om (.b false) ?_
   refine Og ?_
   refine Og ?_
   refine Og ?_
   refine zaS (v:=.b false) (e:=false) (by decide) rfl rfl rfl ?_
   refine Om (.b false) ?_
   refine Og ?_
   refine Og ?_
   refine zaS (v:=.b false) (e:=false) (by decide) rfl rfl rfl ?_
   refine Om (.b false) ?_
   refine Og ?_
   refine Og ?_
   refine zaS (v:=.b false) (e:=false) (by decide) rfl rfl rfl ?_
   refine Om (.b false) ?_
   refine Og ?_
   refine Og ?_
   refine zaS (v:=.b false) (e:=false) (by decide) rfl rfl rfl ?_
   refine Om (.b false) ?_
   refine Og ?_
   refine Og ?_
   refine zaS (v:=.b false) (e:=false) (by decide) rfl rfl rfl ?_
   refine Oa (.b false) ?_
   refine Ni ?_
   exact zal false (.k .nil) ⟨(hS.keep [] rfl).up (by omega),hM⟩
theorem znE {a0:Wheel} {r:Wheel} (hM:zhU a0=some r):zaH Try.prog 59 [.agg (Wheel.cells a0)] (.agg [.i r.Round,.sl .no 1 (r.Notches.map cI),.sl .no 1 (r.Coins.map cI)]):=by
 refine zak mixed Try.func59 rfl (by decide) Try.ntmps59 (by simp) ?pure fun H0 g hf=>?_
 case pure=>exact .agg _ (zab (.v _) (zab (.sl _ _ (zav (fun x=>(zab (.v _) zaF)))) (zab (.sl _ _ (zav (fun x=>(zab (.v _) zaF)))) zaF)))
 rw [zag]
 change wpA _ _ _ _ (Fr.of [(0,.agg (Wheel.cells a0))]) H0 g
 have hS:=St.start hf
 refine Sq ?_
 refine Rg 2 ?_
 refine zb4 (v:=.agg (Wheel.cells a0)) (cs:=(Wheel.cells a0)) hS (by decide) rfl rfl (by omega) fun H hS=>?_
 refine za3 hS (by decide) ziT (by omega) fun H hS=>?_
 refine Ni ?_
 refine zaX (L':=[(g+1,.cells [.i 0,.sl .nil 0 [],.sl .nil 0 []])]) 1 1 hS rfl rfl rfl fun H hS=>?_
 refine Ws ?_
 refine Sq ?_
 have hS0:=hS
 refine zck (n:=12) rfl (by kernel_rfl) ?_
 refine Of ((Wheel.cells a0)) zdq ?_
 refine Olp (.i a0.Round) zah zar ?_
 refine zaW (es:=[]) hS (by decide) zay zbn rfl zbi rfl (by decide) (by omega) fun H hS=>?_
 refine Of ((Wheel.cells a0)) zfv ?_
 refine Olp (.sl .no 1 (a0.Notches.map cI)) zau zaO ?_
 obtain ⟨l1,hl1,hM⟩:=zai hM
 refine zed (xs:=([]:List Int)) (ys:=a0.Notches) (zs:=l1) (f:=cI) (L':=[(g+2+2,.row 3 l1.length),(g+1,.cells [.i 0,.sl .nil 0 [],.sl .nil 0 []])]) 0 hS (by decide) rfl rfl rfl rfl (.behind (by kernel_rfl)) zay zbn zbi hl1 rfl fun H hS=>?_
 refine zaW (es:=[]) hS (by decide) zay zbn rfl zbi rfl (by decide) (by omega) fun H hS=>?_
 refine Of ((Wheel.cells a0)) zbL ?_
 refine Olp (.sl .no 1 (a0.Coins.map cI)) zau zaO ?_
 obtain ⟨l2,hl2,hM⟩:=zai hM
 refine zed (xs:=([]:List Int)) (ys:=a0.Coins) (zs:=l2) (f:=cI) (L':=[(g+2+6,.row 3 l2.length),(g+2+2,.row 3 l1.length),(g+1,.cells [.i 0,.sl .nil 0 [],.sl .nil 0 []])]) 0 hS (by decide) rfl rfl rfl rfl (.behind (by kernel_rfl)) zay zbn zbi hl2 rfl fun H hS=>?_
 refine zbx (cs:=[.i a0.Round,.sl (.id (g+2+2)) 1 (l1.map cI),.sl (.id (g+2+6)) 1 (l2.map cI)]) (by decide) ziT zr6 rfl ?_
 refine zaJ (v:=.agg [.i a0.Round,.sl (.id (g+2+2)) 1 (l1.map cI),.sl (.id (g+2+6)) 1 (l2.map cI)]) (ns:=[.i a0.Round,.sl (.id (g+2+2)) 1 (l1.map cI),.sl (.id (g+2+6)) 1 (l2.map cI)]) (L':=[(g+2+6,.row 3 l2.length),(g+2+2,.row 3 l1.length),(g+1,.cells [.i a0.Round,.sl (.id (g+2+2)) 1 (l1.map cI),.sl (.id (g+2+6)) 1 (l2.map cI)])]) 2 hS rfl rfl (.st hS0 0 rfl (by omega)) rfl rfl zmA nlb rfl fun H hS=>?_
 refine Ni ?_
 refine zeF [(2,.ptr (g+1) 0)] (.k .nil) ?_
 refine zaR ?_
 refine zaZ (x:=.agg [.i a0.Round,.sl (.id (g+2+2)) 1 (l1.map cI),.sl (.id (g+2+6)) 1 (l2.map cI)]) (f:=fun r=>.agg [.i r.Round,.sl .no 1 (r.Notches.map cI),.sl .no 1 (r.Coins.map cI)]) (.inr rfl) ?_ (.aggL (.k (.cons (.sl _ _ _) (.cons (.sl _ _ _) .nil)))) (Option.some.inj hM) hS
 exact (zax (zcA (x:=.agg [.i a0.Round,.sl (.id (g+2+2)) 1 (l1.map cI),.sl (.id (g+2+6)) 1 (l2.map cI)]) 2 hS rfl rfl (pg zbk)))
theorem znF {a0:Box} {r:Box} (hM:zhV a0=some r):zaH Try.prog 17 [.agg (Box.cells a0)] (.agg [.i r.Wheel.Round,.sl .no 1 (r.Wheel.Notches.map cI),.sl .no 1 (r.Wheel.Coins.map cI),.sl .no 1 (r.Found.map cI),.sl .no 1 (r.Marked.map cI),.sl .no 1 (r.Slugs.map cI),.i r.Plays,.i r.Skips]):=by
 refine zak mixed Try.func17 rfl (by decide) Try.ntmps17 (by simp) ?pure fun H0 g hf=>?_
 case pure=>exact .agg _ (zab (.v _) (zab (.sl _ _ (zav (fun x=>(zab (.v _) zaF)))) (zab (.sl _ _ (zav (fun x=>(zab (.v _) zaF)))) (zab (.sl _ _ (zav (fun x=>(zab (.v _) zaF)))) (zab (.sl _ _ (zav (fun x=>(zab (.v _) zaF)))) (zab (.sl _ _ (zav (fun x=>(zab (.v _) zaF)))) (zab (.v _) (zab (.v _) zaF))))))))
 rw [zag]
 change wpA _ _ _ _ (Fr.of [(0,.agg (Box.cells a0))]) H0 g
 have hS:=St.start hf
 refine Sq ?_
 refine Rg 2 ?_
 refine zb4 (v:=.agg (Box.cells a0)) (cs:=(Box.cells a0)) hS (by decide) rfl rfl (by omega) fun H hS=>?_
 refine za3 hS (by decide) zf7 (by omega) fun H hS=>?_
 refine Ni ?_
 refine zaX (L':=[(g+1,.cells [.i 0,.sl .nil 0 [],.sl .nil 0 [],.sl .nil 0 [],.sl .nil 0 [],.sl .nil 0 [],.i 0,.i 0])]) 1 1 hS rfl rfl rfl fun H hS=>?_
 refine Ws ?_
 refine Sq ?_
 refine Rg 3 ?_
 refine Olg (.agg (Box.cells a0)) zcj ?_
 refine za3 hS (by decide) zf7 (by omega) fun H hS=>?_
 refine zaJ (v:=.agg (Box.cells a0)) (ns:=(Box.cells a0)) (L':=[(g+2+1,.cells (Box.cells a0)),(g+1,.cells [.i 0,.sl .nil 0 [],.sl .nil 0 [],.sl .nil 0 [],.sl .nil 0 [],.sl .nil 0 [],.i 0,.i 0])]) 0 hS rfl rfl .no rfl rfl ziU nlb rfl fun H hS=>?_
 refine Ni ?_
 refine Ws ?_
 refine Sq ?_
 refine Rg 5 ?_
 refine Of ((Box.cells a0)) zcH ?_
 refine Olg (.agg (Wheel.cells a0.Wheel)) zbk ?_
 obtain ⟨r1,hr1,hM⟩:=zai hM
 refine zaE (bs:=[.agg (Wheel.cells a0.Wheel)]) (by decide) rfl rfl ((znE hr1).le (.k .nil)) ?_
 refine zaw (by decide) zcH rfl ?_
 refine zaJ (v:=.agg (Wheel.cells r1)) (ns:=(Wheel.cells r1)) (L':=[(g+2+1,.cells [.i r1.Round,.sl .no 1 (r1.Notches.map cI),.sl .no 1 (r1.Coins.map cI),.sl .no 1 (a0.Found.map cI),.sl .no 1 (a0.Marked.map cI),.sl .no 1 (a0.Slugs.map cI),.i a0.Plays,.i a0.Skips]),(g+1,.cells [.i 0,.sl .nil 0 [],.sl .nil 0 [],.sl .nil 0 [],.sl .nil 0 [],.sl .nil 0 [],.i 0,.i 0])]) 0 hS rfl rfl .no rfl rfl zmA nlb rfl fun H hS=>?_
 refine Ni ?_
 refine Ws ?_
 refine Sq ?_
 have hS0:=hS
 refine zck (n:=18) rfl (by kernel_rfl) ?_
 refine zaW (es:=[]) hS (by decide) zay zbn rfl zbi rfl (by decide) (by omega) fun H hS=>?_
 refine Of ((Box.cells a0)) zcU ?_
 refine Olp (.sl .no 1 (a0.Found.map cI)) zau zaO ?_
 obtain ⟨l2,hl2,hM⟩:=zai hM
 refine zed (xs:=([]:List Int)) (ys:=a0.Found) (zs:=l2) (f:=cI) (L':=[(g+2+3+5+0,.row 3 l2.length),(g+2+1,.cells [.i r1.Round,.sl .no 1 (r1.Notches.map cI),.sl .no 1 (r1.Coins.map cI),.sl .no 1 (a0.Found.map cI),.sl .no 1 (a0.Marked.map cI),.sl .no 1 (a0.Slugs.map cI),.i a0.Plays,.i a0.Skips]),(g+1,.cells [.i 0,.sl .nil 0 [],.sl .nil 0 [],.sl .nil 0 [],.sl .nil 0 [],.sl .nil 0 [],.i 0,.i 0])]) 0 hS (by decide) rfl rfl rfl rfl (.behind (by kernel_rfl)) zay zbn zbi hl2 rfl fun H hS=>?_
 refine zaW (es:=[]) hS (by decide) zay zbn rfl zbi rfl (by decide) (by omega) fun H hS=>?_
 refine Of ((Box.cells a0)) zfw ?_
 refine Olp (.sl .no 1 (a0.Marked.map cI)) zau zaO ?_
 obtain ⟨l3,hl3,hM⟩:=zai hM
 refine zed (xs:=([]:List Int)) (ys:=a0.Marked) (zs:=l3) (f:=cI) (L':=[(g+2+3+5+4,.row 3 l3.length),(g+2+3+5+0,.row 3 l2.length),(g+2+1,.cells [.i r1.Round,.sl .no 1 (r1.Notches.map cI),.sl .no 1 (r1.Coins.map cI),.sl .no 1 (a0.Found.map cI),.sl .no 1 (a0.Marked.map cI),.sl .no 1 (a0.Slugs.map cI),.i a0.Plays,.i a0.Skips]),(g+1,.cells [.i 0,.sl .nil 0 [],.sl .nil 0 [],.sl .nil 0 [],.sl .nil 0 [],.sl .nil 0 [],.i 0,.i 0])]) 0 hS (by decide) rfl rfl rfl rfl (.behind (by kernel_rfl)) zay zbn zbi hl3 rfl fun H hS=>?_
 refine zaW (es:=[]) hS (by decide) zay zbn rfl zbi rfl (by decide) (by omega) fun H hS=>?_
 refine Of ((Box.cells a0)) zd9 ?_
 refine Olp (.sl .no 1 (a0.Slugs.map cI)) zau zaO ?_
 obtain ⟨l4,hl4,hM⟩:=zai hM
 refine zed (xs:=([]:List Int)) (ys:=a0.Slugs) (zs:=l4) (f:=cI) (L':=[(g+2+3+5+8,.row 3 l4.length),(g+2+3+5+4,.row 3 l3.length),(g+2+3+5+0,.row 3 l2.length),(g+2+1,.cells [.i r1.Round,.sl .no 1 (r1.Notches.map cI),.sl .no 1 (r1.Coins.map cI),.sl .no 1 (a0.Found.map cI),.sl .no 1 (a0.Marked.map cI),.sl .no 1 (a0.Slugs.map cI),.i a0.Plays,.i a0.Skips]),(g+1,.cells [.i 0,.sl .nil 0 [],.sl .nil 0 [],.sl .nil 0 [],.sl .nil 0 [],.sl .nil 0 [],.i 0,.i 0])]) 0 hS (by decide) rfl rfl rfl rfl (.behind (by kernel_rfl)) zay zbn zbi hl4 rfl fun H hS=>?_
 refine zaw (by decide) zcU rfl ?_
 refine zaJ (v:=.sl (.id (g+2+3+5+0)) 1 (l2.map cI)) (ns:=[.sl (.id (g+2+3+5+0)) 1 (l2.map cI)]) (L':=[(g+2+3+5+8,.row 3 l4.length),(g+2+3+5+4,.row 3 l3.length),(g+2+3+5+0,.row 3 l2.length),(g+2+1,.cells [.i r1.Round,.sl .no 1 (r1.Notches.map cI),.sl .no 1 (r1.Coins.map cI),.sl (.id (g+2+3+5+0)) 1 (l2.map cI),.sl .no 1 (a0.Marked.map cI),.sl .no 1 (a0.Slugs.map cI),.i a0.Plays,.i a0.Skips]),(g+1,.cells [.i 0,.sl .nil 0 [],.sl .nil 0 [],.sl .nil 0 [],.sl .nil 0 [],.sl .nil 0 [],.i 0,.i 0])]) 3 hS rfl rfl (.st hS0 0 rfl (by omega)) rfl rfl zmz nlb rfl fun H hS=>?_
 refine zaw (by decide) zfw rfl ?_
 refine zaJ (v:=.sl (.id (g+2+3+5+4)) 1 (l3.map cI)) (ns:=[.sl (.id (g+2+3+5+4)) 1 (l3.map cI)]) (L':=[(g+2+3+5+8,.row 3 l4.length),(g+2+3+5+4,.row 3 l3.length),(g+2+3+5+0,.row 3 l2.length),(g+2+1,.cells [.i r1.Round,.sl .no 1 (r1.Notches.map cI),.sl .no 1 (r1.Coins.map cI),.sl (.id (g+2+3+5+0)) 1 (l2.map cI),.sl (.id (g+2+3+5+4)) 1 (l3.map cI),.sl .no 1 (a0.Slugs.map cI),.i a0.Plays,.i a0.Skips]),(g+1,.cells [.i 0,.sl .nil 0 [],.sl .nil 0 [],.sl .nil 0 [],.sl .nil 0 [],.sl .nil 0 [],.i 0,.i 0])]) 3 hS rfl rfl (.st hS0 0 rfl (by omega)) rfl rfl zmz nlb rfl fun H hS=>?_
 refine zaw (by decide) zd9 rfl ?_
 refine zaJ (v:=.sl (.id (g+2+3+5+8)) 1 (l4.map cI)) (ns:=[.sl (.id (g+2+3+5+8)) 1 (l4.map cI)]) (L':=[(g+2+3+5+8,.row 3 l4.length),(g+2+3+5+4,.row 3 l3.length),(g+2+3+5+0,.row 3 l2.length),(g+2+1,.cells [.i r1.Round,.sl .no 1 (r1.Notches.map cI),.sl .no 1 (r1.Coins.map cI),.sl (.id (g+2+3+5+0)) 1 (l2.map cI),.sl (.id (g+2+3+5+4)) 1 (l3.map cI),.sl (.id (g+2+3+5+8)) 1 (l4.map cI),.i a0.Plays,.i a0.Skips]),(g+1,.cells [.i 0,.sl .nil 0 [],.sl .nil 0 [],.sl .nil 0 [],.sl .nil 0 [],.sl .nil 0 [],.i 0,.i 0])]) 3 hS rfl rfl (.st hS0 0 rfl (by omega)) rfl rfl zmz nlb rfl fun H hS=>?_
 refine Ni ?_
 refine Ws ?_
 refine Sq ?_
 refine Rg 2 ?_
 refine zaV (v:=.agg [.i r1.Round,.sl .no 1 (r1.Notches.map cI),.sl .no 1 (r1.Coins.map cI),.sl (.id (g+2+3+5+0)) 1 (l2.map cI),.sl (.id (g+2+3+5+4)) 1 (l3.map cI),.sl (.id (g+2+3+5+8)) 1 (l4.map cI),.i a0.Plays,.i a0.Skips]) 3 hS (by decide) rfl rfl .no (pg zcj) ?_
 refine zaJ (v:=.agg [.i r1.Round,.sl .no 1 (r1.Notches.map cI),.sl .no 1 (r1.Coins.map cI),.sl (.id (g+2+3+5+0)) 1 (l2.map cI),.sl (.id (g+2+3+5+4)) 1 (l3.map cI),.sl (.id (g+2+3+5+8)) 1 (l4.map cI),.i a0.Plays,.i a0.Skips]) (ns:=[.i r1.Round,.sl .no 1 (r1.Notches.map cI),.sl .no 1 (r1.Coins.map cI),.sl (.id (g+2+3+5+0)) 1 (l2.map cI),.sl (.id (g+2+3+5+4)) 1 (l3.map cI),.sl (.id (g+2+3+5+8)) 1 (l4.map cI),.i a0.Plays,.i a0.Skips]) (L':=[(g+2+3+5+8,.row 3 l4.length),(g+2+3+5+4,.row 3 l3.length),(g+2+3+5+0,.row 3 l2.length),(g+2+1,.cells [.i r1.Round,.sl .no 1 (r1.Notches.map cI),.sl .no 1 (r1.Coins.map cI),.sl (.id (g+2+3+5+0)) 1 (l2.map cI),.sl (.id (g+2+3+5+4)) 1 (l3.map cI),.sl (.id (g+2+3+5+8)) 1 (l4.map cI),.i a0.Plays,.i a0.Skips]),(g+1,.cells [.i r1.Round,.sl .no 1 (r1.Notches.map cI),.sl .no 1 (r1.Coins.map cI),.sl (.id (g+2+3+5+0)) 1 (l2.map cI),.sl (.id (g+2+3+5+4)) 1 (l3.map cI),.sl (.id (g+2+3+5+8)) 1 (l4.map cI),.i a0.Plays,.i a0.Skips])]) 4 hS rfl rfl .no rfl rfl ziU nlb rfl fun H hS=>?_
 refine Ni ?_
 replace hS:=hS.keep (L':=[(g+2+3+5+8,.row 3 l4.length),(g+2+3+5+4,.row 3 l3.length),(g+2+3+5+0,.row 3 l2.length),(g+1,.cells [.i r1.Round,.sl .no 1 (r1.Notches.map cI),.sl .no 1 (r1.Coins.map cI),.sl (.id (g+2+3+5+0)) 1 (l2.map cI),.sl (.id (g+2+3+5+4)) 1 (l3.map cI),.sl (.id (g+2+3+5+8)) 1 (l4.map cI),.i a0.Plays,.i a0.Skips])]) [true,true,true,false,true] rfl
 refine zeF [(2,.ptr (g+1) 0)] (.k .nil) ?_
 refine zaR ?_
 refine zaZ (x:=.agg [.i r1.Round,.sl .no 1 (r1.Notches.map cI),.sl .no 1 (r1.Coins.map cI),.sl (.id (g+2+3+5+0)) 1 (l2.map cI),.sl (.id (g+2+3+5+4)) 1 (l3.map cI),.sl (.id (g+2+3+5+8)) 1 (l4.map cI),.i a0.Plays,.i a0.Skips]) (f:=fun r=>.agg [.i r.Wheel.Round,.sl .no 1 (r.Wheel.Notches.map cI),.sl .no 1 (r.Wheel.Coins.map cI),.sl .no 1 (r.Found.map cI),.sl .no 1 (r.Marked.map cI),.sl .no 1 (r.Slugs.map cI),.i r.Plays,.i r.Skips]) (.inr rfl) ?_ (.aggL (.k (.k (.k (.cons (.sl _ _ _) (.cons (.sl _ _ _) (.cons (.sl _ _ _) (.k (.k .nil))))))))) (Option.some.inj hM) hS
 exact (zax (zcA (x:=.agg [.i r1.Round,.sl .no 1 (r1.Notches.map cI),.sl .no 1 (r1.Coins.map cI),.sl (.id (g+2+3+5+0)) 1 (l2.map cI),.sl (.id (g+2+3+5+4)) 1 (l3.map cI),.sl (.id (g+2+3+5+8)) 1 (l4.map cI),.i a0.Plays,.i a0.Skips]) 3 hS rfl rfl (pg zcj)))
theorem zj4 {n:Nat} {a0:Wheel} {a1:List Int} {a2:Int} {r:Bool} (hM:zgC n a0 a1 a2=some r):zaH Try.prog 64 [.agg (Wheel.cells a0),.sl .no 1 (a1.map cI),.i a2] (.b r):=by
 refine zak mixed Try.func64 rfl (by decide) Try.ntmps64 (by simp) ?pure fun H0 g hf=>?_
 case pure=>exact .v _
 rw [zag]
 change wpA _ _ _ _ (Fr.of [(0,.agg (Wheel.cells a0)),(1,.sl .no 1 (a1.map cI)),(2,.i a2)]) H0 g
 have hS:=St.start hf
 refine Sq ?_
 refine Rg 2 ?_
 refine zb4 (v:=.agg (Wheel.cells a0)) (cs:=(Wheel.cells a0)) hS (by decide) rfl rfl (by omega) fun H hS=>?_
 refine Oa (.b false) ?_
 refine Ni ?_
 refine zaX (L':=[]) 0 3 hS rfl rfl rfl fun H hS=>?_
 refine Ws ?_
 refine za1 (J:=Unit) (fun j=>[(1,.sl .no 1 (a1.map cI))]) (fun j H' g'=>St (·<g) H0 [] H' g'/\zdZ a1=some r) ?_ ?_
 ·rintro _ H g1 ⟨hS,hM⟩
  change wpA _ _ _ _ (Fr.of [(1,.sl .no 1 (a1.map cI))]) _ _
  replace hS:St (·<g) H0 [] H g1:=hS
  replace hM:zdZ a1=some r:=hM
  refine Sq ?_
  refine Rg 4 ?_
  refine Om (.sl .no 1 (a1.map cI)) ?_
  refine zbA (n:=a1.length) (by decide) rfl (List.length_map _) zaB ?_
  refine Oi (.b (decide ((a1.length:Int)<=20))) ?_
  refine Oa (.b (decide ((a1.length:Int)<=20))) ?_
  refine Ni ?_
  refine Ws ?_
  refine zaR ?_
  refine zaZ (x:=.b (decide ((a1.length:Int)<=20))) (f:=fun r=>.b r) (.inr rfl) ?_ (.refl _) (Option.some.inj hM) hS
  exact (zax (zae (x:=.b (decide ((a1.length:Int)<=20))) rfl))
 ·refine Sq ?_
  refine Rg 1 ?_
  refine Oa (.i 0) ?_
  refine Ni ?_
  refine Ws ?_
  refine zaK ?_
  refine zct (V:=Int) (fun v=>[(1,.sl .no 1 (a1.map cI)),(2,.i a2),(3,.ep (Wheel.cells a0)),(7,.i v)]) (fun v m2 H' g'=>St (·<g) H0 [] H' g'/\zcd a0 a1 a2 m2 v=some r) (n:=n) 0 (.k (.k (.k (.k .nil)))) ⟨(hS.keep [] rfl).up (by omega),hM⟩ ?_
  rintro v1 m2 H g2 ⟨hS,hM⟩
  obtain _ | m2:=m2
  ·exact nomatch (show none=some _ from hM)
  change wpA _ _ _ _ (Fr.of [(1,.sl .no 1 (a1.map cI)),(2,.i a2),(3,.ep (Wheel.cells a0)),(7,.i v1)]) _ _
  replace hS:St (·<g) H0 [] H g2:=hS
  replace hM:zdh a0 a1 a2 (zcd a0 a1 a2 m2) v1=some r:=hM
  refine Sq ?_
  refine Sq ?_
  refine Rg 4 ?_
  refine Om (.i v1) ?_
  refine Om (.sl .no 1 (a1.map cI)) ?_
  refine zbA (n:=a1.length) (by decide) rfl (List.length_map _) zaB ?_
  refine Oi (.b (decide (v1<(a1.length:Int)))) ?_
  refine Ni ?_
  refine Ws ?_
  rcases bft (decide (v1<(a1.length:Int))) with hb2 | hb2
  ·replace hM:=ifT hM hb2
   refine Ct hb2 ?_
   refine zaD ?_
   refine Ws ?_
   refine Sq ?_
   refine zaK ?_
   refine Sq ?_
   have hS0:=hS
   refine zck (n:=11) rfl (by kernel_rfl) ?_
   refine Om (.sl .no 1 (a1.map cI)) ?_
   refine Om (.i v1) ?_
   obtain ⟨x3,hx3,hM⟩:=zai hM
   refine za5 (xs:=a1) (f:=cI) (z:=v1) (u:=x3) (by decide) rfl rfl zay hx3 ?_
   refine Olp (.i x3) zah zar ?_
   refine Om (.i a2) ?_
   refine Of ((Wheel.cells a0)) zbL ?_
   refine Olp (.sl .no 1 (a0.Coins.map cI)) zau zaO ?_
   refine zbA (n:=a0.Coins.length) (by decide) rfl (List.length_map _) zaB ?_
   refine Oi (.i (w64 ((a0.Coins.length:Int)-1))) ?_
   obtain ⟨r4,hr4,hM⟩:=zai hM
   refine zaE (bs:=[.i x3,.i a2,.i (w64 ((a0.Coins.length:Int)-1))]) (by decide) rfl rfl ((zea hr4).le (.k (.k (.k .nil)))) ?_
   refine zd4 (e:=r4) (by decide) rfl ?_
   refine Ni ?_
   refine Ws ?_
   rcases bft (!r4) with hb5 | hb5
   ·replace hM:=ifT hM hb5
    refine Ct hb5 ?_
    refine Sq ?_
    refine Rg 1 ?_
    refine Oa (.b false) ?_
    refine Ni ?_
    refine Ws ?_
    refine zaR ?_
    refine za2 ?_
    refine zam ?_
    refine zb9 ?_
    refine za2 ?_
    refine zcD ?_
    refine zaZ (x:=.b false) (f:=fun r=>.b r) (.inr rfl) ?_ (.refl _) (Option.some.inj hM) hS
    exact (zax (zae (x:=.b false) rfl))
   ·replace hM:=ifF hM hb5
    refine Cf hb5 ?_
    refine zaD ?_
    refine zat ?_
    refine Ws ?_
    refine Rg 3 ?_
    refine Om (.i v1) ?_
    refine Oi (.i (w64 (v1+1))) ?_
    refine Oa (.i (w64 (v1+1))) ?_
    refine Ni ?_
    exact zbq (w64 (v1+1)) (Nat.lt_succ_self _) (.k (.k (.k (.k .nil)))) ⟨(hS.keep [] rfl).up (by omega),hM⟩
  ·replace hM:=ifF hM hb2
   refine Cf hb2 ?_
   refine zb1 ?_
   refine zaA ?_
   refine zaz ?_
   refine zaL ?_
   exact zal () (.k .nil) ⟨(hS.keep [] rfl).up (by omega),hM⟩
theorem zmJ {n:Nat} {a0:Wheel} {a1:List Int} {r:Bool} (hM:zf4 n a0 a1=some r):zaH Try.prog 24 [.agg (Wheel.cells a0),.sl .no 1 (a1.map cI)] (.b r):=by
 refine zak mixed Try.func24 rfl (by decide) Try.ntmps24 (by simp) ?pure fun H0 g hf=>?_
 case pure=>exact .v _
 rw [zag]
 change wpA _ _ _ _ (Fr.of [(0,.agg (Wheel.cells a0)),(1,.sl .no 1 (a1.map cI))]) H0 g
 have hS:=St.start hf
 refine Sq ?_
 refine Rg 2 ?_
 refine zb4 (v:=.agg (Wheel.cells a0)) (cs:=(Wheel.cells a0)) hS (by decide) rfl rfl (by omega) fun H hS=>?_
 refine Oa (.b false) ?_
 refine Ni ?_
 refine zaX (L':=[]) 0 2 hS rfl rfl rfl fun H hS=>?_
 refine Ws ?_
 refine Sq ?_
 refine Rg 4 ?_
 refine Olg (.agg (Wheel.cells a0)) zbk ?_
 refine Om (.sl .no 1 (a1.map cI)) ?_
 obtain ⟨r1,hr1,hM⟩:=zai hM
 refine zaE (bs:=[.agg (Wheel.cells a0),.sl .no 1 (a1.map cI),.i (-1)]) (by decide) rfl rfl ((zj4 hr1).le (.k (.k (.k .nil)))) ?_
 refine Oa (.b r1) ?_
 refine Ni ?_
 refine zeF [(4,.b r1)] (.k .nil) ?_
 refine zaR ?_
 refine zaZ (x:=.b r1) (f:=fun r=>.b r) (.inr rfl) ?_ (.refl _) (Option.some.inj hM) hS
 exact (zax (zae (x:=.b r1) rfl))
theorem zoL {n:Nat} {a0:Wheel} {a1:List Int} {r:(List Int)} (hM:ziM n a0 a1=some r):zaH Try.prog 28 [.agg (Wheel.cells a0),.sl .no 1 (a1.map cI)] (.sl .no 1 (r.map cI)):=by
 refine zak mixed Try.func28 rfl (by decide) Try.ntmps28 (by simp) ?pure fun H0 g hf=>?_
 case pure=>exact .sl _ _ (zav (fun x=>(zab (.v _) zaF)))
 rw [zag]
 change wpA _ _ _ _ (Fr.of [(0,.agg (Wheel.cells a0)),(1,.sl .no 1 (a1.map cI))]) H0 g
 have hS:=St.start hf
 refine Sq ?_
 refine Rg 2 ?_
 refine zb4 (v:=.agg (Wheel.cells a0)) (cs:=(Wheel.cells a0)) hS (by decide) rfl rfl (by omega) fun H hS=>?_
 refine Oa (.sl .nil 0 []) ?_
 refine Ni ?_
 refine zaX (L':=[]) 0 2 hS rfl rfl rfl fun H hS=>?_
 refine Ws ?_
 refine Sq ?_
 refine Rg 1 ?_
 refine Oa (.sl .nil 0 []) ?_
 refine Ni ?_
 refine zv2 [(1,.sl .no 1 (a1.map cI)),(2,.ep (Wheel.cells a0)),(5,.sl (.id (g+2+1)) 1 (([]:List Int).map cI))] 5 1 3 hS (by omega) (by decide) rfl (.k (.k (.k .nil))) fun H hS=>?_
 refine za1 (J:=(List Int)) (fun j=>[(5,.sl (.id (g+2+1)) 1 (j.map cI))]) (fun j H' g'=>St (·<g) H0 [(g+2+1,.row 3 j.length)] H' g'/\zgp j=some r) ?_ ?_
 ·rintro v1 H g1 ⟨hS,hM⟩
  change wpA _ _ _ _ (Fr.of [(5,.sl (.id (g+2+1)) 1 (v1.map cI))]) _ _
  replace hS:St (·<g) H0 [(g+2+1,.row 3 v1.length)] H g1:=hS
  replace hM:zgp v1=some r:=hM
  refine Sq ?_
  refine Rg 2 ?_
  refine Om (.sl (.id (g+2+1)) 1 (v1.map cI)) ?_
  refine Oa (.sl (.id (g+2+1)) 1 (v1.map cI)) ?_
  refine Ni ?_
  refine Ws ?_
  refine zaR ?_
  refine zaZ (x:=.sl (.id (g+2+1)) 1 (v1.map cI)) (f:=fun r=>.sl .no 1 (r.map cI)) (.inr rfl) ?_ (.sl _ _ _) (Option.some.inj hM) hS
  exact (zax (zae (x:=.sl (.id (g+2+1)) 1 (v1.map cI)) rfl))
 ·refine Sq ?_
  refine Rg 1 ?_
  refine Oa (.i 0) ?_
  refine Ni ?_
  refine Ws ?_
  refine zaK ?_
  refine zct (V:=(List Int)×Int) (fun v=>[(1,.sl .no 1 (a1.map cI)),(2,.ep (Wheel.cells a0)),(5,.sl (.id (g+2+1)) 1 (v.1.map cI)),(6,.i v.2)]) (fun v m2 H' g'=>St (·<g) H0 [(g+2+1,.row 3 v.1.length)] H' g'/\zbe n a0 a1 m2 v.1 v.2=some r) (n:=n) (([]:List Int),0) (.k (.k (.k (.k .nil)))) ⟨(hS.keep [true] rfl).up (by omega),hM⟩ ?_
  rintro ⟨v2,v3⟩ m2 H g2 ⟨hS,hM⟩
  obtain _ | m2:=m2
  ·exact nomatch (show none=some _ from hM)
  change wpA _ _ _ _ (Fr.of [(1,.sl .no 1 (a1.map cI)),(2,.ep (Wheel.cells a0)),(5,.sl (.id (g+2+1)) 1 (v2.map cI)),(6,.i v3)]) _ _
  replace hS:St (·<g) H0 [(g+2+1,.row 3 v2.length)] H g2:=hS
  replace hM:zfe n a0 a1 (zbe n a0 a1 m2) v2 v3=some r:=hM
  refine Sq ?_
  refine Sq ?_
  refine Rg 5 ?_
  refine Om (.i v3) ?_
  refine Of ((Wheel.cells a0)) zbL ?_
  refine Olp (.sl .no 1 (a0.Coins.map cI)) zau zaO ?_
  refine zbA (n:=a0.Coins.length) (by decide) rfl (List.length_map _) zaB ?_
  refine Oi (.b (decide (v3<(a0.Coins.length:Int)))) ?_
  refine Ni ?_
  refine Ws ?_
  rcases bft (decide (v3<(a0.Coins.length:Int))) with hb4 | hb4
  ·replace hM:=ifT hM hb4
   refine Ct hb4 ?_
   refine zaD ?_
   refine Ws ?_
   refine za1 (J:=(List Int)) (fun j=>[(1,.sl .no 1 (a1.map cI)),(2,.ep (Wheel.cells a0)),(5,.sl (.id (g+2+1)) 1 (j.map cI)),(6,.i v3)]) (fun j H' g'=>St (·<g) H0 [(g+2+1,.row 3 j.length)] H' g'/\zgq (zbe n a0 a1 m2) v3 j=some r) ?_ ?_
   ·rintro v5 H g3 ⟨hS,hM⟩
    change wpA _ _ _ _ (Fr.of [(1,.sl .no 1 (a1.map cI)),(2,.ep (Wheel.cells a0)),(5,.sl (.id (g+2+1)) 1 (v5.map cI)),(6,.i v3)]) _ _
    replace hS:St (·<g) H0 [(g+2+1,.row 3 v5.length)] H g3:=hS
    replace hM:zgq (zbe n a0 a1 m2) v3 v5=some r:=hM
    refine Rg 3 ?_
    refine Om (.i v3) ?_
    refine Oi (.i (w64 (v3+1))) ?_
    refine Oa (.i (w64 (v3+1))) ?_
    refine Ni ?_
    exact zbq (v5,w64 (v3+1)) (Nat.lt_succ_self _) (.k (.k (.k (.k .nil)))) ⟨(hS.keep [true] rfl).up (by omega),hM⟩
   ·refine zaK ?_
    refine Sq ?_
    refine Rg 1 ?_
    refine Oa (.i 0) ?_
    refine Ni ?_
    refine Ws ?_
    refine za1 (J:=Int) (fun j=>[(1,.sl .no 1 (a1.map cI)),(2,.ep (Wheel.cells a0)),(5,.sl (.id (g+2+1)) 1 (v2.map cI)),(6,.i v3),(7,.i j)]) (fun j H' g'=>St (·<g) H0 [(g+2+1,.row 3 v2.length)] H' g'/\zey (zbe n a0 a1 m2) v2 v3 j=some r) ?_ ?_
    ·rintro v6 H g4 ⟨hS,hM⟩
     change wpA _ _ _ _ (Fr.of [(1,.sl .no 1 (a1.map cI)),(2,.ep (Wheel.cells a0)),(5,.sl (.id (g+2+1)) 1 (v2.map cI)),(6,.i v3),(7,.i v6)]) _ _
     replace hS:St (·<g) H0 [(g+2+1,.row 3 v2.length)] H g4:=hS
     replace hM:zey (zbe n a0 a1 m2) v2 v3 v6=some r:=hM
     refine Rg 5 ?_
     refine Om (.sl (.id (g+2+1)) 1 (v2.map cI)) ?_
     refine Om (.i v6) ?_
     refine zaW (es:=[[.i v6]]) hS (by decide) zay zbn rfl zbi rfl (by decide) (by omega) fun H hS=>?_
     obtain ⟨l7,hl7,hM⟩:=zai hM
     refine zed (xs:=v2) (ys:=([v6]:List Int)) (zs:=l7) (f:=cI) (L':=[(g4+2,.row 3 1),(g+2+1,.row 3 l7.length)]) 1 hS (by decide) rfl rfl rfl rfl .no zay zbn zbi hl7 rfl fun H hS=>?_
     refine Oa (.sl (.id (g+2+1)) 1 (l7.map cI)) ?_
     refine Ni ?_
     refine zat ?_
     exact zal l7 (.k (.k (.k (.k .nil)))) ⟨(hS.keep [false,true] rfl).up (by omega),hM⟩
    ·refine Sq ?_
     refine Rg 1 ?_
     refine Oa (.i 0) ?_
     refine Ni ?_
     refine Ws ?_
     refine zaK ?_
     refine zct (V:=Int×Int) (fun v=>[(1,.sl .no 1 (a1.map cI)),(2,.ep (Wheel.cells a0)),(5,.sl (.id (g+2+1)) 1 (v2.map cI)),(6,.i v3),(7,.i v.1),(8,.i v.2)]) (fun v m5 H' g'=>St (·<g) H0 [(g+2+1,.row 3 v2.length)] H' g'/\zcq (zbe n a0 a1 m2) a1 v2 v3 m5 v.1 v.2=some r) (n:=n) (0,0) (.k (.k (.k (.k (.k (.k .nil)))))) ⟨(hS.keep [true] rfl).up (by omega),hM⟩ ?_
     rintro ⟨v8,v9⟩ m5 H g5 ⟨hS,hM⟩
     obtain _ | m5:=m5
     ·exact nomatch (show none=some _ from hM)
     change wpA _ _ _ _ (Fr.of [(1,.sl .no 1 (a1.map cI)),(2,.ep (Wheel.cells a0)),(5,.sl (.id (g+2+1)) 1 (v2.map cI)),(6,.i v3),(7,.i v8),(8,.i v9)]) _ _
     replace hS:St (·<g) H0 [(g+2+1,.row 3 v2.length)] H g5:=hS
     replace hM:zfd (zbe n a0 a1 m2) a1 v2 v3 (zcq (zbe n a0 a1 m2) a1 v2 v3 m5) v8 v9=some r:=hM
     refine Sq ?_
     refine Sq ?_
     refine Rg 4 ?_
     refine Om (.i v9) ?_
     refine Om (.sl .no 1 (a1.map cI)) ?_
     refine zbA (n:=a1.length) (by decide) rfl (List.length_map _) zaB ?_
     refine Oi (.b (decide (v9<(a1.length:Int)))) ?_
     refine Ni ?_
     refine Ws ?_
     rcases bft (decide (v9<(a1.length:Int))) with hb10 | hb10
     ·replace hM:=ifT hM hb10
      refine Ct hb10 ?_
      refine zaD ?_
      refine Ws ?_
      refine za1 (J:=Int) (fun j=>[(1,.sl .no 1 (a1.map cI)),(2,.ep (Wheel.cells a0)),(5,.sl (.id (g+2+1)) 1 (v2.map cI)),(6,.i v3),(7,.i j),(8,.i v9)]) (fun j H' g'=>St (·<g) H0 [(g+2+1,.row 3 v2.length)] H' g'/\zfp (zcq (zbe n a0 a1 m2) a1 v2 v3 m5) v9 j=some r) ?_ ?_
      ·rintro v11 H g6 ⟨hS,hM⟩
       change wpA _ _ _ _ (Fr.of [(1,.sl .no 1 (a1.map cI)),(2,.ep (Wheel.cells a0)),(5,.sl (.id (g+2+1)) 1 (v2.map cI)),(6,.i v3),(7,.i v11),(8,.i v9)]) _ _
       replace hS:St (·<g) H0 [(g+2+1,.row 3 v2.length)] H g6:=hS
       replace hM:zfp (zcq (zbe n a0 a1 m2) a1 v2 v3 m5) v9 v11=some r:=hM
       refine Rg 3 ?_
       refine Om (.i v9) ?_
       refine Oi (.i (w64 (v9+1))) ?_
       refine Oa (.i (w64 (v9+1))) ?_
       refine Ni ?_
       exact zbq (v11,w64 (v9+1)) (Nat.lt_succ_self _) (.k (.k (.k (.k (.k (.k .nil)))))) ⟨(hS.keep [true] rfl).up (by omega),hM⟩
      ·refine zaK ?_
       refine Sq ?_
       refine Rg 6 ?_
       refine Om (.sl .no 1 (a1.map cI)) ?_
       refine Om (.i v9) ?_
       obtain ⟨x12,hx12,hM⟩:=zai hM
       refine za5 (xs:=a1) (f:=cI) (z:=v9) (u:=x12) (by decide) rfl rfl zay hx12 ?_
       refine Olp (.i x12) zah zar ?_
       refine Om (.i v3) ?_
       refine Oi (.b (x12==v3)) ?_
       refine Ni ?_
       refine Ws ?_
       rcases bft (x12==v3) with hb13 | hb13
       ·replace hM:=ifT hM hb13
        refine Ct hb13 ?_
        refine Rg 3 ?_
        refine Om (.i v8) ?_
        refine Oi (.i (w64 (v8+1))) ?_
        refine Oa (.i (w64 (v8+1))) ?_
        refine Ni ?_
        refine zat ?_
        exact zal (w64 (v8+1)) (.k (.k (.k (.k (.k (.k .nil)))))) ⟨(hS.keep [true] rfl).up (by omega),hM⟩
       ·replace hM:=ifF hM hb13
        refine Cf hb13 ?_
        refine zaD ?_
        refine zat ?_
        exact zal v8 (.k (.k (.k (.k (.k (.k .nil)))))) ⟨(hS.keep [true] rfl).up (by omega),hM⟩
     ·replace hM:=ifF hM hb10
      refine Cf hb10 ?_
      refine zb1 ?_
      refine zaA ?_
      refine zaz ?_
      refine zaL ?_
      exact zal v8 (.k (.k (.k (.k (.k .nil))))) ⟨(hS.keep [true] rfl).up (by omega),hM⟩
  ·replace hM:=ifF hM hb4
   refine Cf hb4 ?_
   refine zb1 ?_
   refine zaA ?_
   refine zaz ?_
   refine zaL ?_
   exact zal v2 (.k .nil) ⟨(hS.keep [true] rfl).up (by omega),hM⟩
theorem zl7 {n:Nat} {a0:List Int} {a1:Int} {r:Bool} (hM:zkb n a0 a1=some r):zaH Try.prog 47 [.sl .no 1 (a0.map cI),.i a1] (.b r):=by
 refine zak mixed Try.func47 rfl (by decide) Try.ntmps47 (by simp) ?pure fun H0 g hf=>?_
 case pure=>exact .v _
 rw [zag]
 change wpA _ _ _ _ (Fr.of [(0,.sl .no 1 (a0.map cI)),(1,.i a1)]) H0 g
 have hS:=St.start hf
 refine Sq ?_
 refine Rg 1 ?_
 refine Oa (.b false) ?_
 refine Ni ?_
 refine Ws ?_
 refine za1 (J:=Unit) (fun j=>[]) (fun j H' g'=>St (·<g) H0 [] H' g'/\zha=some r) ?_ ?_
 ·rintro _ H g1 ⟨hS,hM⟩
  change wpA _ _ _ _ (Fr.of []) _ _
  replace hS:St (·<g) H0 [] H g1:=hS
  replace hM:zha=some r:=hM
  refine Sq ?_
  refine Rg 1 ?_
  refine Oa (.b false) ?_
  refine Ni ?_
  refine Ws ?_
  refine zaR ?_
  refine zaZ (x:=.b false) (f:=fun r=>.b r) (.inr rfl) ?_ (.refl _) (Option.some.inj hM) hS
  exact (zax (zae (x:=.b false) rfl))
 ·refine Sq ?_
  refine Rg 1 ?_
  refine Oa (.i 0) ?_
  refine Ni ?_
  refine Ws ?_
  refine zaK ?_
  refine zct (V:=Int) (fun v=>[(0,.sl .no 1 (a0.map cI)),(1,.i a1),(5,.i v)]) (fun v m2 H' g'=>St (·<g) H0 [] H' g'/\zem a0 a1 m2 v=some r) (n:=n) 0 (.k (.k (.k .nil))) ⟨(hS.keep [] rfl).up (by omega),hM⟩ ?_
  rintro v1 m2 H g2 ⟨hS,hM⟩
  obtain _ | m2:=m2
  ·exact nomatch (show none=some _ from hM)
  change wpA _ _ _ _ (Fr.of [(0,.sl .no 1 (a0.map cI)),(1,.i a1),(5,.i v1)]) _ _
  replace hS:St (·<g) H0 [] H g2:=hS
  replace hM:zfM a0 a1 (zem a0 a1 m2) v1=some r:=hM
  refine Sq ?_
  refine Sq ?_
  refine Rg 4 ?_
  refine Om (.i v1) ?_
  refine Om (.sl .no 1 (a0.map cI)) ?_
  refine zbA (n:=a0.length) (by decide) rfl (List.length_map _) zaB ?_
  refine Oi (.b (decide (v1<(a0.length:Int)))) ?_
  refine Ni ?_
  refine Ws ?_
  rcases bft (decide (v1<(a0.length:Int))) with hb2 | hb2
  ·replace hM:=ifT hM hb2
   refine Ct hb2 ?_
   refine zaD ?_
   refine Ws ?_
   refine Sq ?_
   refine zaK ?_
   refine Sq ?_
   refine Rg 6 ?_
   refine Om (.sl .no 1 (a0.map cI)) ?_
   refine Om (.i v1) ?_
   obtain ⟨x3,hx3,hM⟩:=zai hM
   refine za5 (xs:=a0) (f:=cI) (z:=v1) (u:=x3) (by decide) rfl rfl zay hx3 ?_
   refine Olp (.i x3) zah zar ?_
   refine Om (.i a1) ?_
   refine Oi (.b (x3==a1)) ?_
   refine Ni ?_
   refine Ws ?_
   rcases bft (x3==a1) with hb4 | hb4
   ·replace hM:=ifT hM hb4
    refine Ct hb4 ?_
    refine Sq ?_
    refine Rg 1 ?_
    refine Oa (.b true) ?_
    refine Ni ?_
    refine Ws ?_
    refine zaR ?_
    refine za2 ?_
    refine zam ?_
    refine zb9 ?_
    refine za2 ?_
    refine zcD ?_
    refine zaZ (x:=.b true) (f:=fun r=>.b r) (.inr rfl) ?_ (.refl _) (Option.some.inj hM) hS
    exact (zax (zae (x:=.b true) rfl))
   ·replace hM:=ifF hM hb4
    refine Cf hb4 ?_
    refine zaD ?_
    refine zat ?_
    refine Ws ?_
    refine Rg 3 ?_
    refine Om (.i v1) ?_
    refine Oi (.i (w64 (v1+1))) ?_
    refine Oa (.i (w64 (v1+1))) ?_
    refine Ni ?_
    exact zbq (w64 (v1+1)) (Nat.lt_succ_self _) (.k (.k (.k .nil))) ⟨(hS.keep [] rfl).up (by omega),hM⟩
  ·replace hM:=ifF hM hb2
   refine Cf hb2 ?_
   refine zb1 ?_
   refine zaA ?_
   refine zaz ?_
   refine zaL ?_
   exact zal () .nil ⟨(hS.keep [] rfl).up (by omega),hM⟩
theorem zoM {n:Nat} {a0:Wheel} {a1:Int} {a2:Int} {r:Int×Int} (hM:ziN n a0 a1 a2=some r):zaH Try.prog 102 [.agg (Wheel.cells a0),.i a1,.i a2] (.tup [.i r.1,.i r.2]):=by
 refine zak mixed Try.func102 rfl (by decide) Try.ntmps102 (by simp) ?pure fun H0 g hf=>?_
 case pure=>exact .tup _ (zab (.v _) (zab (.v _) zaF))
 rw [zag]
 change wpA _ _ _ _ (Fr.of [(0,.agg (Wheel.cells a0)),(1,.i a1),(2,.i a2)]) H0 g
 have hS:=St.start hf
 refine Sq ?_
 refine Rg 3 ?_
 refine zb4 (v:=.agg (Wheel.cells a0)) (cs:=(Wheel.cells a0)) hS (by decide) rfl rfl (by omega) fun H hS=>?_
 refine Oa (.i 0) ?_
 refine Oa (.i 0) ?_
 refine Ni ?_
 refine zaX (L':=[]) 0 3 hS rfl rfl rfl fun H hS=>?_
 refine Ws ?_
 refine za1 (J:=Int×Int) (fun j=>[(1,.i j.1),(7,.i j.2)]) (fun j H' g'=>St (·<g) H0 [] H' g'/\zgr j.1 j.2=some r) ?_ ?_
 ·rintro ⟨v1,v2⟩ H g1 ⟨hS,hM⟩
  change wpA _ _ _ _ (Fr.of [(1,.i v1),(7,.i v2)]) _ _
  replace hS:St (·<g) H0 [] H g1:=hS
  replace hM:zgr v1 v2=some r:=hM
  refine Sq ?_
  refine Rg 4 ?_
  refine Om (.i v1) ?_
  refine Om (.i v2) ?_
  refine Oa (.i v1) ?_
  refine Oa (.i v2) ?_
  refine Ni ?_
  refine Ws ?_
  refine zaR ?_
  refine zaZ (x:=.tup [.i v1,.i v2]) (f:=fun r=>.tup [.i r.1,.i r.2]) (.inr rfl) ?_ (.refl _) (Option.some.inj hM) hS
  exact (zcl (zae (x:=.i v1) rfl) (zae (x:=.i v2) rfl))
 ·refine Sq ?_
  refine Rg 1 ?_
  refine Oa (.i 0) ?_
  refine Ni ?_
  refine Ws ?_
  refine zaK ?_
  refine zct (V:=Int×Int×Int) (fun v=>[(1,.i v.1),(2,.i a2),(3,.ep (Wheel.cells a0)),(7,.i v.2.1),(8,.i v.2.2)]) (fun v m2 H' g'=>St (·<g) H0 [] H' g'/\zcr n a0 a2 m2 v.1 v.2.1 v.2.2=some r) (n:=n) (a1,0,0) (.k (.k (.k (.k (.k .nil))))) ⟨(hS.keep [] rfl).up (by omega),hM⟩ ?_
  rintro ⟨v3,v4,v5⟩ m2 H g2 ⟨hS,hM⟩
  obtain _ | m2:=m2
  ·exact nomatch (show none=some _ from hM)
  change wpA _ _ _ _ (Fr.of [(1,.i v3),(2,.i a2),(3,.ep (Wheel.cells a0)),(7,.i v4),(8,.i v5)]) _ _
  replace hS:St (·<g) H0 [] H g2:=hS
  replace hM:zff n a0 a2 (zcr n a0 a2 m2) v3 v4 v5=some r:=hM
  refine Sq ?_
  refine Sq ?_
  refine Rg 3 ?_
  refine Om (.i v5) ?_
  refine Om (.i a2) ?_
  refine Oi (.b (decide (v5<a2))) ?_
  refine Ni ?_
  refine Ws ?_
  rcases bft (decide (v5<a2)) with hb6 | hb6
  ·replace hM:=ifT hM hb6
   refine Ct hb6 ?_
   refine zaD ?_
   refine Ws ?_
   refine za1 (J:=Int×Int) (fun j=>[(1,.i j.1),(2,.i a2),(3,.ep (Wheel.cells a0)),(7,.i j.2),(8,.i v5)]) (fun j H' g'=>St (·<g) H0 [] H' g'/\zfq (zcr n a0 a2 m2) v5 j.1 j.2=some r) ?_ ?_
   ·rintro ⟨v7,v8⟩ H g3 ⟨hS,hM⟩
    change wpA _ _ _ _ (Fr.of [(1,.i v7),(2,.i a2),(3,.ep (Wheel.cells a0)),(7,.i v8),(8,.i v5)]) _ _
    replace hS:St (·<g) H0 [] H g3:=hS
    replace hM:zfq (zcr n a0 a2 m2) v5 v7 v8=some r:=hM
    refine Rg 3 ?_
    refine Om (.i v5) ?_
    refine Oi (.i (w64 (v5+1))) ?_
    refine Oa (.i (w64 (v5+1))) ?_
    refine Ni ?_
    exact zbq (v7,v8,w64 (v5+1)) (Nat.lt_succ_self _) (.k (.k (.k (.k (.k .nil))))) ⟨(hS.keep [] rfl).up (by omega),hM⟩
   ·refine zaK ?_
    refine Sq ?_
    refine Rg 3 ?_
    refine Om (.i v3) ?_
    refine Oi (.i (w64 (v3+1))) ?_
    refine Oa (.i (w64 (v3+1))) ?_
    refine Ni ?_
    refine Ws ?_
    refine za1 (J:=Int) (fun j=>[(1,.i (w64 (v3+1))),(2,.i a2),(3,.ep (Wheel.cells a0)),(7,.i j),(8,.i v5)]) (fun j H' g'=>St (·<g) H0 [] H' g'/\zfr (zcr n a0 a2 m2) a0 v3 v5 j=some r) ?_ ?_
    ·rintro v9 H g4 ⟨hS,hM⟩
     change wpA _ _ _ _ (Fr.of [(1,.i (w64 (v3+1))),(2,.i a2),(3,.ep (Wheel.cells a0)),(7,.i v9),(8,.i v5)]) _ _
     replace hS:St (·<g) H0 [] H g4:=hS
     replace hM:zfr (zcr n a0 a2 m2) a0 v3 v5 v9=some r:=hM
     refine Sq ?_
     refine Rg 4 ?_
     refine Om (.i (w64 (v3+1))) ?_
     refine Of ((Wheel.cells a0)) zdq ?_
     refine Olp (.i a0.Round) zah zar ?_
     refine Oi (.b ((w64 (v3+1))==a0.Round)) ?_
     refine Ni ?_
     refine Ws ?_
     rcases bft ((w64 (v3+1))==a0.Round) with hb10 | hb10
     ·replace hM:=ifT hM hb10
      refine Ct hb10 ?_
      refine Rg 1 ?_
      refine Oa (.i 0) ?_
      refine Ni ?_
      refine zat ?_
      exact zal (0,v9) (.k (.k (.k (.k (.k .nil))))) ⟨(hS.keep [] rfl).up (by omega),hM⟩
     ·replace hM:=ifF hM hb10
      refine Cf hb10 ?_
      refine zaD ?_
      refine zat ?_
      exact zal (w64 (v3+1),v9) (.k (.k (.k (.k (.k .nil))))) ⟨(hS.keep [] rfl).up (by omega),hM⟩
    ·refine Sq ?_
     refine Rg 4 ?_
     refine Of ((Wheel.cells a0)) zfv ?_
     refine Olp (.sl .no 1 (a0.Notches.map cI)) zau zaO ?_
     refine Om (.i (w64 (v3+1))) ?_
     obtain ⟨r11,hr11,hM⟩:=zai hM
     refine zaE (bs:=[.sl .no 1 (a0.Notches.map cI),.i (w64 (v3+1))]) (by decide) rfl rfl ((zl7 hr11).le (.k (.k .nil))) ?_
     refine Ni ?_
     refine Ws ?_
     rcases bft r11 with hb12 | hb12
     ·replace hM:=ifT hM hb12
      refine Ct hb12 ?_
      refine Rg 3 ?_
      refine Om (.i v4) ?_
      refine Oi (.i (w64 (v4+1))) ?_
      refine Oa (.i (w64 (v4+1))) ?_
      refine Ni ?_
      exact zal (w64 (v4+1)) (.k (.k (.k (.k (.k .nil))))) ⟨(hS.keep [] rfl).up (by omega),hM⟩
     ·replace hM:=ifF hM hb12
      refine Cf hb12 ?_
      refine zaD ?_
      exact zal v4 (.k (.k (.k (.k (.k .nil))))) ⟨(hS.keep [] rfl).up (by omega),hM⟩
  ·replace hM:=ifF hM hb6
   refine Cf hb6 ?_
   refine zb1 ?_
   refine zaA ?_
   refine zaz ?_
   refine zaL ?_
   exact zal (v3,v4) (.k (.k .nil)) ⟨(hS.keep [] rfl).up (by omega),hM⟩
theorem zoN {n:Nat} {a0:Wheel} {a1:Stand} {a2:Int} {r:Stand×Bool} (hM:ziO n a0 a1 a2=some r):zaH Try.prog 67 [.agg (Wheel.cells a0),.agg (Stand.cells a1),.i a2] (.tup [.agg [.i r.1.Place,.i r.1.Credit],.b r.2]):=by
 refine zak mixed Try.func67 rfl (by decide) Try.ntmps67 (by simp) ?pure fun H0 g hf=>?_
 case pure=>exact .tup _ (zab (.agg _ (zab (.v _) (zab (.v _) zaF))) (zab (.v _) zaF))
 rw [zag]
 change wpA _ _ _ _ (Fr.of [(0,.agg (Wheel.cells a0)),(1,.agg (Stand.cells a1)),(2,.i a2)]) H0 g
 have hS:=St.start hf
 refine Sq ?_
 refine Rg 4 ?_
 refine zb4 (v:=.agg (Wheel.cells a0)) (cs:=(Wheel.cells a0)) hS (by decide) rfl rfl (by omega) fun H hS=>?_
 refine zb4 (v:=.agg (Stand.cells a1)) (cs:=(Stand.cells a1)) hS (by decide) rfl rfl (by omega) fun H hS=>?_
 refine za3 hS (by decide) zcz (by omega) fun H hS=>?_
 refine Oa (.b false) ?_
 refine Ni ?_
 refine zaX (L':=[(g+2,.cells [.i 0,.i 0]),(g+1,.cells (Stand.cells a1))]) 2 3 hS rfl rfl rfl fun H hS=>?_
 refine zaX (L':=[(g+2,.cells [.i 0,.i 0])]) 1 4 hS rfl rfl rfl fun H hS=>?_
 refine Ws ?_
 refine Sq ?_
 refine Sq ?_
 refine Rg 2 ?_
 refine Om (.i a2) ?_
 refine Oi (.b (decide (a2≥0))) ?_
 refine Ni ?_
 refine Ws ?_
 rcases bft (decide (a2≥0)) with hb1 | hb1
 ·replace hM:=ifT hM hb1
  refine Ct hb1 ?_
  refine Sq ?_
  have hS0:=hS
  refine zck (n:=14) rfl (by kernel_rfl) ?_
  refine Olg (.agg (Wheel.cells a0)) zbk ?_
  refine Of ((Stand.cells a1)) zdr ?_
  refine Olp (.i a1.Place) zah zar ?_
  refine Of ((Wheel.cells a0)) zbL ?_
  refine Olp (.sl .no 1 (a0.Coins.map cI)) zau zaO ?_
  refine Om (.i a2) ?_
  obtain ⟨x2,hx2,hM⟩:=zai hM
  refine za5 (xs:=a0.Coins) (f:=cI) (z:=a2) (u:=x2) (by decide) rfl rfl zay hx2 ?_
  refine Olp (.i x2) zah zar ?_
  obtain ⟨r3,hr3,hM⟩:=zai hM
  refine zaE (bs:=[.agg (Wheel.cells a0),.i a1.Place,.i x2]) (by decide) rfl rfl ((zoM hr3).le (.k (.k (.k .nil)))) ?_
  refine Om (.tup [.i r3.1,.i r3.2]) ?_
  refine Ox (.i r3.1) ?_
  refine Ox (.i r3.2) ?_
  refine Oa (.i r3.1) ?_
  refine Oa (.i r3.2) ?_
  refine Ni ?_
  refine Ws ?_
  refine Sq ?_
  refine Rg 8 ?_
  refine Om (.i r3.1) ?_
  refine Of ((Stand.cells a1)) zbV ?_
  refine Olp (.i a1.Credit) zah zar ?_
  refine Om (.i r3.2) ?_
  refine Oi (.i (w64 (a1.Credit+r3.2))) ?_
  refine zbx (cs:=[.i r3.1,.i (w64 (a1.Credit+r3.2))]) (by decide) zcz zhe rfl ?_
  refine zaJ (v:=.agg [.i r3.1,.i (w64 (a1.Credit+r3.2))]) (ns:=[.i r3.1,.i (w64 (a1.Credit+r3.2))]) (L':=[(g+2,.cells [.i r3.1,.i (w64 (a1.Credit+r3.2))])]) 0 hS rfl rfl .no rfl rfl zd1 nlb rfl fun H hS=>?_
  refine Oa (.b false) ?_
  refine Ni ?_
  refine Ws ?_
  refine zaR ?_
  refine zam ?_
  refine zaZ (x:=.tup [.agg [.i r3.1,.i (w64 (a1.Credit+r3.2))],.b false]) (f:=fun r=>.tup [.agg [.i r.1.Place,.i r.1.Credit],.b r.2]) (.inr rfl) ?_ (.refl _) (Option.some.inj hM) hS
  exact (zcl (zcA (x:=.agg [.i r3.1,.i (w64 (a1.Credit+r3.2))]) 0 hS rfl rfl (pg zdD)) (zae (x:=.b false) rfl))
 ·replace hM:=ifF hM hb1
  refine Cf hb1 ?_
  refine zaD ?_
  refine Ws ?_
  refine Sq ?_
  refine Sq ?_
  refine Rg 3 ?_
  refine Of ((Stand.cells a1)) zbV ?_
  refine Olp (.i a1.Credit) zah zar ?_
  refine Oi (.b (a1.Credit==0)) ?_
  refine Ni ?_
  refine Ws ?_
  rcases bft (a1.Credit==0) with hb4 | hb4
  ·replace hM:=ifT hM hb4
   refine Ct hb4 ?_
   refine Sq ?_
   refine Rg 3 ?_
   refine Olg (.agg (Stand.cells a1)) zdD ?_
   refine zaJ (v:=.agg (Stand.cells a1)) (ns:=(Stand.cells a1)) (L':=[(g+2,.cells (Stand.cells a1))]) 0 hS rfl rfl .no rfl rfl zd1 nlb rfl fun H hS=>?_
   refine Oa (.b false) ?_
   refine Ni ?_
   refine Ws ?_
   refine zaR ?_
   refine zam ?_
   refine zaZ (x:=.tup [.agg (Stand.cells a1),.b false]) (f:=fun r=>.tup [.agg [.i r.1.Place,.i r.1.Credit],.b r.2]) (.inr rfl) ?_ (.refl _) (Option.some.inj hM) hS
   exact (zcl (zcA (x:=.agg (Stand.cells a1)) 0 hS rfl rfl (pg zdD)) (zae (x:=.b false) rfl))
  ·replace hM:=ifF hM hb4
   refine Cf hb4 ?_
   refine zaD ?_
   refine Ws ?_
   refine Sq ?_
   refine Rg 6 ?_
   refine Of ((Stand.cells a1)) zbV ?_
   refine Olp (.i a1.Credit) zah zar ?_
   refine Oi (.i (w64 (a1.Credit-1))) ?_
   refine zbx (cs:=[.i 0,.i (w64 (a1.Credit-1))]) (by decide) zcz zhe rfl ?_
   refine zaJ (v:=.agg [.i 0,.i (w64 (a1.Credit-1))]) (ns:=[.i 0,.i (w64 (a1.Credit-1))]) (L':=[(g+2,.cells [.i 0,.i (w64 (a1.Credit-1))])]) 0 hS rfl rfl .no rfl rfl zd1 nlb rfl fun H hS=>?_
   refine Oa (.b true) ?_
   refine Ni ?_
   refine zeF [(6,.ptr (g+2) 0),(7,.b true)] (.k (.k .nil)) ?_
   refine zaR ?_
   refine zaZ (x:=.tup [.agg [.i 0,.i (w64 (a1.Credit-1))],.b true]) (f:=fun r=>.tup [.agg [.i r.1.Place,.i r.1.Credit],.b r.2]) (.inr rfl) ?_ (.refl _) (Option.some.inj hM) hS
   exact (zcl (zcA (x:=.agg [.i 0,.i (w64 (a1.Credit-1))]) 0 hS rfl rfl (pg zdD)) (zae (x:=.b true) rfl))
theorem znG {n:Nat} {a0:Wheel} {a1:List Int} {r:Int} (hM:zhW n a0 a1=some r):zaH Try.prog 31 [.agg (Wheel.cells a0),.sl .no 1 (a1.map cI)] (.i r):=by
 refine zak mixed Try.func31 rfl (by decide) Try.ntmps31 (by simp) ?pure fun H0 g hf=>?_
 case pure=>exact .v _
 rw [zag]
 change wpA _ _ _ _ (Fr.of [(0,.agg (Wheel.cells a0)),(1,.sl .no 1 (a1.map cI))]) H0 g
 have hS:=St.start hf
 refine Sq ?_
 refine Rg 2 ?_
 refine zb4 (v:=.agg (Wheel.cells a0)) (cs:=(Wheel.cells a0)) hS (by decide) rfl rfl (by omega) fun H hS=>?_
 refine Oa (.i 0) ?_
 refine Ni ?_
 refine zaX (L':=[]) 0 2 hS rfl rfl rfl fun H hS=>?_
 refine Ws ?_
 refine Sq ?_
 refine Rg 1 ?_
 refine za3 hS (by decide) zcz (by omega) fun H hS=>?_
 refine Ni ?_
 refine Ws ?_
 refine Sq ?_
 refine Rg 1 ?_
 refine Oa (.i 0) ?_
 refine Ni ?_
 refine Ws ?_
 refine za1 (J:=Int) (fun j=>[(6,.i j)]) (fun j H' g'=>St (·<g) H0 [] H' g'/\zfN j=some r) ?_ ?_
 ·rintro v1 H g1 ⟨hS,hM⟩
  change wpA _ _ _ _ (Fr.of [(6,.i v1)]) _ _
  replace hS:St (·<g) H0 [] H g1:=hS
  replace hM:zfN v1=some r:=hM
  refine Sq ?_
  refine Rg 2 ?_
  refine Om (.i v1) ?_
  refine Oa (.i v1) ?_
  refine Ni ?_
  refine Ws ?_
  refine zaR ?_
  refine zaZ (x:=.i v1) (f:=fun r=>.i r) (.inr rfl) ?_ (.refl _) (Option.some.inj hM) hS
  exact (zax (zae (x:=.i v1) rfl))
 ·refine Sq ?_
  refine Rg 1 ?_
  refine Oa (.i 0) ?_
  refine Ni ?_
  refine Ws ?_
  refine zaK ?_
  refine zct (V:=Int×Int×Int×Int) (fun v=>[(1,.sl .no 1 (a1.map cI)),(2,.ep (Wheel.cells a0)),(5,.ptr (g+2+0) 0),(6,.i v.1),(7,.i v.2.1)]) (fun v m3 H' g'=>St (·<g) H0 [(g+2+0,.cells [.i v.2.2.1,.i v.2.2.2])] H' g'/\zci n a0 a1 m3 v.1 v.2.1 v.2.2.1 v.2.2.2=some r) (n:=n) (0,0,0,0) (.k (.k (.k (.k (.k .nil))))) ⟨(hS.keep [true] rfl).up (by omega),hM⟩ ?_
  rintro ⟨v4,v5,v6,v7⟩ m3 H g3 ⟨hS,hM⟩
  obtain _ | m3:=m3
  ·exact nomatch (show none=some _ from hM)
  change wpA _ _ _ _ (Fr.of [(1,.sl .no 1 (a1.map cI)),(2,.ep (Wheel.cells a0)),(5,.ptr (g+2+0) 0),(6,.i v4),(7,.i v5)]) _ _
  replace hS:St (·<g) H0 [(g+2+0,.cells [.i v6,.i v7])] H g3:=hS
  replace hM:zeO n a0 a1 (zci n a0 a1 m3) v4 v5 v6 v7=some r:=hM
  refine Sq ?_
  refine Sq ?_
  refine Rg 4 ?_
  refine Om (.i v5) ?_
  refine Om (.sl .no 1 (a1.map cI)) ?_
  refine zbA (n:=a1.length) (by decide) rfl (List.length_map _) zaB ?_
  refine Oi (.b (decide (v5<(a1.length:Int)))) ?_
  refine Ni ?_
  refine Ws ?_
  rcases bft (decide (v5<(a1.length:Int))) with hb8 | hb8
  ·replace hM:=ifT hM hb8
   refine Ct hb8 ?_
   refine zaD ?_
   refine Ws ?_
   refine Sq ?_
   refine zaK ?_
   refine Sq ?_
   have hS0:=hS
   refine zck (n:=13) rfl (by kernel_rfl) ?_
   refine Olg (.agg (Wheel.cells a0)) zbk ?_
   refine zaV (v:=.agg [.i v6,.i v7]) 0 hS (by decide) rfl rfl (.st hS0 0 rfl (by omega)) (pg zdD) ?_
   refine Om (.sl .no 1 (a1.map cI)) ?_
   refine Om (.i v5) ?_
   obtain ⟨x9,hx9,hM⟩:=zai hM
   refine za5 (xs:=a1) (f:=cI) (z:=v5) (u:=x9) (by decide) rfl rfl zay hx9 ?_
   refine Olp (.i x9) zah zar ?_
   obtain ⟨r10,hr10,hM⟩:=zai hM
   refine zaE (bs:=[.agg (Wheel.cells a0),.agg [.i v6,.i v7],.i x9]) (by decide) rfl rfl ((zoN hr10).le (.k (.k (.k .nil)))) ?_
   refine Om (.tup [.agg (Stand.cells r10.1),.b r10.2]) ?_
   refine Ox (.agg (Stand.cells r10.1)) ?_
   refine Ox (.b r10.2) ?_
   refine za3 hS (by decide) zcz (by omega) fun H hS=>?_
   refine zaJ (v:=.agg (Stand.cells r10.1)) (ns:=(Stand.cells r10.1)) (L':=[(g3+4+10,.cells (Stand.cells r10.1)),(g+2+0,.cells [.i v6,.i v7])]) 0 hS rfl rfl (.behind (by kernel_rfl)) rfl rfl zd1 nlb rfl fun H hS=>?_
   refine Oa (.b r10.2) ?_
   refine Ni ?_
   refine zaX (L':=[(g+2+0,.cells [.i v6,.i v7])]) 0 8 hS rfl rfl rfl fun H hS=>?_
   refine Ws ?_
   refine Sq ?_
   refine Rg 8 ?_
   refine Om (.i v4) ?_
   refine Of ((Stand.cells r10.1)) zbV ?_
   refine Olp (.i r10.1.Credit) zah zar ?_
   refine zaw (by decide) zbV rfl ?_
   refine zaV (v:=.i v7) 0 hS (by decide) rfl rfl .no (po zah zar) ?_
   refine Oi (.i (w64 (r10.1.Credit-v7))) ?_
   refine Oi (.i (w64 (v4+(w64 (r10.1.Credit-v7))))) ?_
   refine Oa (.i (w64 (v4+(w64 (r10.1.Credit-v7))))) ?_
   refine Ni ?_
   refine Ws ?_
   refine za1 (J:=Int) (fun j=>[(1,.sl .no 1 (a1.map cI)),(2,.ep (Wheel.cells a0)),(5,.ptr (g+2+0) 0),(6,.i j),(7,.i v5),(8,.ep (Stand.cells r10.1))]) (fun j H' g'=>St (·<g) H0 [(g+2+0,.cells [.i v6,.i v7])] H' g'/\zeN (zci n a0 a1 m3) v5 r10 j=some r) ?_ ?_
   ·rintro v11 H g4 ⟨hS,hM⟩
    change wpA _ _ _ _ (Fr.of [(1,.sl .no 1 (a1.map cI)),(2,.ep (Wheel.cells a0)),(5,.ptr (g+2+0) 0),(6,.i v11),(7,.i v5),(8,.ep (Stand.cells r10.1))]) _ _
    replace hS:St (·<g) H0 [(g+2+0,.cells [.i v6,.i v7])] H g4:=hS
    replace hM:zeN (zci n a0 a1 m3) v5 r10 v11=some r:=hM
    refine Rg 2 ?_
    refine Olg (.agg (Stand.cells r10.1)) zdD ?_
    refine zaJ (v:=.agg (Stand.cells r10.1)) (ns:=(Stand.cells r10.1)) (L':=[(g+2+0,.cells (Stand.cells r10.1))]) 0 hS rfl rfl .no rfl rfl zd1 nlb rfl fun H hS=>?_
    refine Ni ?_
    refine zat ?_
    refine Ws ?_
    refine Rg 3 ?_
    refine Om (.i v5) ?_
    refine Oi (.i (w64 (v5+1))) ?_
    refine Oa (.i (w64 (v5+1))) ?_
    refine Ni ?_
    exact zbq (v11,w64 (v5+1),r10.1.Place,r10.1.Credit) (Nat.lt_succ_self _) (.k (.k (.k (.k (.k .nil))))) ⟨(hS.keep [true] rfl).up (by omega),hM⟩
   ·refine Sq ?_
    refine Rg 1 ?_
    refine Om (.b r10.2) ?_
    refine Ni ?_
    refine Ws ?_
    rcases bft r10.2 with hb12 | hb12
    ·replace hM:=ifT hM hb12
     refine Ct hb12 ?_
     refine Rg 3 ?_
     refine Om (.i (w64 (v4+(w64 (r10.1.Credit-v7))))) ?_
     refine Oi (.i (w64 ((w64 (v4+(w64 (r10.1.Credit-v7))))+1))) ?_
     refine Oa (.i (w64 ((w64 (v4+(w64 (r10.1.Credit-v7))))+1))) ?_
     refine Ni ?_
     exact zal (w64 ((w64 (v4+(w64 (r10.1.Credit-v7))))+1)) (.k (.k (.k (.k (.k (.k .nil)))))) ⟨(hS.keep [true] rfl).up (by omega),hM⟩
    ·replace hM:=ifF hM hb12
     refine Cf hb12 ?_
     refine zaD ?_
     exact zal (w64 (v4+(w64 (r10.1.Credit-v7)))) (.k (.k (.k (.k (.k (.k .nil)))))) ⟨(hS.keep [true] rfl).up (by omega),hM⟩
  ·replace hM:=ifF hM hb8
   refine Cf hb8 ?_
   refine zb1 ?_
   refine zaA ?_
   refine zaz ?_
   refine zaL ?_
   exact zal v4 (.k .nil) ⟨(hS.keep [false] rfl).up (by omega),hM⟩
theorem zhK {p1:Nat} (hnd:[p1].Nodup) {n:Nat} {a0:Wheel_} {a1:List Int} {st:Spot_} {r:Bool×Spot_} (hM:zdi n a0 a1 st=some r):zjZ Try.prog 107 [.agg (Wheel.cells a0.Wheel),.ep [.sl .no 1 (a1.map cI)],.ptr p1 0] [(p1,.cells (Spot_.cells st))] (.b r.1) [(p1,.cells [.i r.2.left.c0,.i r.2.left.c1,.i r.2.left.c2,.i r.2.left.c3,.i r.2.place,.i r.2.credit])]:=by
 refine zds mixed Try.func107 rfl (by decide) Try.ntmps107 (by simp) (zfO zh9) hnd ?pure ?cells fun H0 g hf_ hp=>?_
 case pure=>exact fun H _=>(show Go.AM.Pure _ from .v _).inH
 case cells=>exact (zjN (zfH (zcm (.inl (.inl (.v _))) (zcm (.inl (.inl (.v _))) (zcm (.inl (.inl (.v _))) (zcm (.inl (.inl (.v _))) (zcm (.inl (.inl (.v _))) (zcm (.inl (.inl (.v _))) ziH)))))) zjM) zgB)
 rw [zag]
 change wpA _ _ _ _ (Fr.of [(0,.agg (Wheel.cells a0.Wheel)),(1,.ep [.sl .no 1 (a1.map cI)]),(2,.ptr p1 0)]) H0 g
 have hS:=St.startH (L:=[(p1,.cells (Spot_.cells st))]) hf_ hnd hp
 replace hS:St (fun i=>i<g/\i∉ids [(p1,.cells (Spot_.cells st))]) H0 [(p1,.cells (Spot_.cells st))] H0 g:=hS
 refine Sq ?_
 refine Rg 2 ?_
 refine zb4 (v:=.agg (Wheel.cells a0.Wheel)) (cs:=(Wheel.cells a0.Wheel)) hS (by decide) rfl rfl (by omega) fun H hS=>?_
 refine Oa (.b false) ?_
 refine Ni ?_
 refine zaX (L':=[(p1,.cells (Spot_.cells st))]) 0 3 hS rfl rfl rfl fun H hS=>?_
 refine Ws ?_
 refine Sq ?_
 refine Rg 1 ?_
 refine Oa (.i 0) ?_
 refine Ni ?_
 refine Ws ?_
 refine za1 (J:=Int×Int×Int×Int×Int) (fun j=>[(1,.ep [.sl .no 1 (a1.map cI)]),(3,.ep (Wheel.cells a0.Wheel)),(5,.i j.1)]) (fun j H' g'=>St (fun i=>i<g/\i∉ids [(p1,.cells (Spot_.cells st))]) H0 [(p1,.cells [.i j.2.1,.i j.2.2.1,.i j.2.2.2.1,.i j.2.2.2.2,.i st.place,.i st.credit])] H' g'/\zei a0 st a1 j.1 j.2.1 j.2.2.1 j.2.2.2.1 j.2.2.2.2=some r) ?_ ?_
 ·rintro ⟨v1,v2,v3,v4,v5⟩ H g1 ⟨hS,hM⟩
  change wpA _ _ _ _ (Fr.of [(1,.ep [.sl .no 1 (a1.map cI)]),(3,.ep (Wheel.cells a0.Wheel)),(5,.i v1)]) _ _
  replace hS:St (fun i=>i<g/\i∉ids [(p1,.cells (Spot_.cells st))]) H0 [(p1,.cells [.i v2,.i v3,.i v4,.i v5,.i st.place,.i st.credit])] H g1:=hS
  replace hM:zei a0 st a1 v1 v2 v3 v4 v5=some r:=hM
  refine za1 (J:=Bool) (fun j=>[(4,.b j)]) (fun j H' g'=>St (fun i=>i<g/\i∉ids [(p1,.cells (Spot_.cells st))]) H0 [(p1,.cells [.i v2,.i v3,.i v4,.i v5,.i st.place,.i st.credit])] H' g'/\zdp st v2 v3 v4 v5 j=some r) ?_ ?_
  ·rintro v6 H g2 ⟨hS,hM⟩
   change wpA _ _ _ _ (Fr.of [(4,.b v6)]) _ _
   replace hS:St (fun i=>i<g/\i∉ids [(p1,.cells (Spot_.cells st))]) H0 [(p1,.cells [.i v2,.i v3,.i v4,.i v5,.i st.place,.i st.credit])] H g2:=hS
   replace hM:zdp st v2 v3 v4 v5 v6=some r:=hM
   refine zaR ?_
   refine zfm (x:=.b v6) (f:=fun r=>.b r.1) (fd:=fun r=>[(p1,.cells [.i r.2.left.c0,.i r.2.left.c1,.i r.2.left.c2,.i r.2.left.c3,.i r.2.place,.i r.2.credit])]) (.inr rfl) ?_ (.refl _) (Option.some.inj hM) hS 0 rfl
   exact (zax (zae (x:=.b v6) rfl))
  ·refine Rg 12 ?_
   refine Olp (.sl .no 1 (a1.map cI)) zau zaO ?_
   refine zbA (n:=a1.length) (by decide) rfl (List.length_map _) zaB ?_
   refine Of ((Wheel.cells a0.Wheel)) zcG ?_
   refine Of ((Wheel.cells a0.Wheel)) zbL ?_
   refine Olp (.sl .no 1 (a0.Wheel.Coins.map cI)) zau zaO ?_
   refine zbA (n:=a0.Wheel.Coins.length) (by decide) rfl (List.length_map _) zaB ?_
   refine Oi (.b ((a1.length:Int)==(a0.Wheel.Coins.length:Int))) ?_
   refine Om (.b ((a1.length:Int)==(a0.Wheel.Coins.length:Int))) ?_
   rcases bft ((a1.length:Int)==(a0.Wheel.Coins.length:Int)) with hb7 | hb7
   ·replace hM:=ifT hM hb7
    refine Oy (want:=true) hb7 ?_
    refine Om (.i v1) ?_
    refine Oy (want:=true) hb7 ?_
    refine Oi (.b (decide (v1<=12))) ?_
    refine Pt (.b (decide (v1<=12))) hb7 ?_
    refine Oa (.b (decide (v1<=12))) ?_
    refine Ni ?_
    exact zal (decide (v1<=12)) (.k .nil) ⟨(hS.keep [true] rfl).up (by omega),hM⟩
   ·replace hM:=ifF hM hb7
    refine On (want:=true) hb7 ?_
    refine On (want:=true) hb7 ?_
    refine Pf (.b false) hb7 ?_
    refine Oa (.b false) ?_
    refine Ni ?_
    exact zal false (.k .nil) ⟨(hS.keep [true] rfl).up (by omega),hM⟩
 ·refine Sq ?_
  refine Rg 3 ?_
  refine Olp (.sl .no 1 (a1.map cI)) zau zaO ?_
  refine zbA (n:=a1.length) (by decide) rfl (List.length_map _) zaB ?_
  refine Om (.i 0) ?_
  refine Ni ?_
  refine Ws ?_
  refine zaK ?_
  refine zct (V:=Int×Int×Int×Int×Int×Int) (fun v=>[(1,.ep [.sl .no 1 (a1.map cI)]),(2,.ptr p1 0),(3,.ep (Wheel.cells a0.Wheel)),(5,.i v.1),(8,.sl .no 1 (a1.map cI)),(9,.i (a1.length:Int)),(10,.i v.2.1)]) (fun v m4 H' g'=>St (fun i=>i<g/\i∉ids [(p1,.cells (Spot_.cells st))]) H0 [(p1,.cells [.i v.2.2.1,.i v.2.2.2.1,.i v.2.2.2.2.1,.i v.2.2.2.2.2,.i st.place,.i st.credit])] H' g'/\zbD a0 st a1 m4 v.1 v.2.1 v.2.2.1 v.2.2.2.1 v.2.2.2.2.1 v.2.2.2.2.2=some r) (n:=n) (0,0,st.left.c0,st.left.c1,st.left.c2,st.left.c3) (.k (.k (.k (.k (.k (.k (.k .nil))))))) ⟨(hS.keep [true] rfl).up (by omega),hM⟩ ?_
  rintro ⟨v10,v11,v12,v13,v14,v15⟩ m4 H g4 ⟨hS,hM⟩
  obtain _ | m4:=m4
  ·exact nomatch (show none=some _ from hM)
  change wpA _ _ _ _ (Fr.of [(1,.ep [.sl .no 1 (a1.map cI)]),(2,.ptr p1 0),(3,.ep (Wheel.cells a0.Wheel)),(5,.i v10),(8,.sl .no 1 (a1.map cI)),(9,.i (a1.length:Int)),(10,.i v11)]) _ _
  replace hS:St (fun i=>i<g/\i∉ids [(p1,.cells (Spot_.cells st))]) H0 [(p1,.cells [.i v12,.i v13,.i v14,.i v15,.i st.place,.i st.credit])] H g4:=hS
  replace hM:zdC a0 st a1 (zbD a0 st a1 m4) v10 v11 v12 v13 v14 v15=some r:=hM
  refine Sq ?_
  refine Rg 1 ?_
  refine Oi (.b (decide (v11<(a1.length:Int)))) ?_
  refine Ni ?_
  refine Ws ?_
  refine Sq ?_
  rcases bft (decide (v11<(a1.length:Int))) with hb16 | hb16
  ·replace hM:=ifT hM hb16
   refine Ct hb16 ?_
   refine zaD ?_
   refine Ws ?_
   refine Sq ?_
   refine zaK ?_
   refine Sq ?_
   refine Rg 5 ?_
   refine Om (.i v11) ?_
   obtain ⟨x17,hx17,hM⟩:=zai hM
   refine za5 (xs:=a1) (f:=cI) (z:=v11) (u:=x17) (by decide) rfl rfl zay hx17 ?_
   refine Olp (.i x17) zah zar ?_
   refine Oa (.i v11) ?_
   refine Oa (.i x17) ?_
   refine Ni ?_
   refine Ws ?_
   refine Sq ?_
   refine za1 (J:=Bool) (fun j=>[(1,.ep [.sl .no 1 (a1.map cI)]),(2,.ptr p1 0),(3,.ep (Wheel.cells a0.Wheel)),(5,.i v10),(6,.i v11),(7,.i x17),(8,.sl .no 1 (a1.map cI)),(9,.i (a1.length:Int)),(10,.i v11),(25,.b j)]) (fun j H' g'=>St (fun i=>i<g/\i∉ids [(p1,.cells (Spot_.cells st))]) H0 [(p1,.cells [.i v12,.i v13,.i v14,.i v15,.i st.place,.i st.credit])] H' g'/\zcN (zbD a0 st a1 m4) st v10 v11 v12 v13 v14 v15 x17 j=some r) ?_ ?_
   ·rintro v18 H g5 ⟨hS,hM⟩
    change wpA _ _ _ _ (Fr.of [(1,.ep [.sl .no 1 (a1.map cI)]),(2,.ptr p1 0),(3,.ep (Wheel.cells a0.Wheel)),(5,.i v10),(6,.i v11),(7,.i x17),(8,.sl .no 1 (a1.map cI)),(9,.i (a1.length:Int)),(10,.i v11),(25,.b v18)]) _ _
    replace hS:St (fun i=>i<g/\i∉ids [(p1,.cells (Spot_.cells st))]) H0 [(p1,.cells [.i v12,.i v13,.i v14,.i v15,.i st.place,.i st.credit])] H g5:=hS
    replace hM:zcN (zbD a0 st a1 m4) st v10 v11 v12 v13 v14 v15 x17 v18=some r:=hM
    rcases bft v18 with hb19 | hb19
    ·replace hM:=ifT hM hb19
     refine Ct hb19 ?_
     refine Sq ?_
     refine Rg 1 ?_
     refine Oa (.b false) ?_
     refine Ni ?_
     refine Ws ?_
     refine zaR ?_
     refine zam ?_
     refine za2 ?_
     refine zam ?_
     refine zb9 ?_
     refine za2 ?_
     refine zcD ?_
     refine zfm (x:=.b false) (f:=fun r=>.b r.1) (fd:=fun r=>[(p1,.cells [.i r.2.left.c0,.i r.2.left.c1,.i r.2.left.c2,.i r.2.left.c3,.i r.2.place,.i r.2.credit])]) (.inr rfl) ?_ (.refl _) (Option.some.inj hM) hS 0 rfl
     exact (zax (zae (x:=.b false) rfl))
    ·replace hM:=ifF hM hb19
     refine Cf hb19 ?_
     refine zaD ?_
     refine Ws ?_
     refine Sq ?_
     refine Rg 5 ?_
     refine Om (.i v11) ?_
     refine Om (.i x17) ?_
     refine zaw (by decide) zgN rfl ?_
     obtain ⟨x20,hx20,hM⟩:=zai hM
     refine zfg (z:=v11) (by decide) rfl rfl ziX (zfs hx20) ?_
     obtain ⟨l21,hl21,hM⟩:=zai hM
     refine ziP (xs:=([v12,v13,v14,v15]:List Int)) (u:=l21) (z:=v11) (v:=x17) (off:=0+0) (cs':=[.i (l21.getD 0 0),.i (l21.getD 1 0),.i (l21.getD 2 0),.i (l21.getD 3 0),.i st.place,.i st.credit]) (L':=[(p1,.cells [.i (l21.getD 0 0),.i (l21.getD 1 0),.i (l21.getD 2 0),.i (l21.getD 3 0),.i st.place,.i st.credit])]) 0 hS rfl rfl .no rfl rfl hl21 zen rfl rfl fun H hS=>?_
     refine Ni ?_
     refine Ws ?_
     refine Rg 4 ?_
     refine Om (.i v10) ?_
     refine Om (.i x17) ?_
     refine Oi (.i (w64 (v10+x17))) ?_
     refine Oa (.i (w64 (v10+x17))) ?_
     refine Ni ?_
     refine zat ?_
     refine Ws ?_
     refine Rg 2 ?_
     refine Oi (.i (w64 (v11+1))) ?_
     refine Om (.i (w64 (v11+1))) ?_
     refine Ni ?_
     exact zbq (w64 (v10+x17),w64 (v11+1),(l21.getD 0 0),(l21.getD 1 0),(l21.getD 2 0),(l21.getD 3 0)) (Nat.lt_succ_self _) (.k (.k (.k (.k (.k (.k (.k .nil))))))) ⟨(hS.keep [true] rfl).up (by omega),hM⟩
   ·refine Rg 11 ?_
    refine Om (.i v11) ?_
    refine Of ((Wheel.cells a0.Wheel)) zcG ?_
    refine Of ((Wheel.cells a0.Wheel)) zbL ?_
    refine Olp (.sl .no 1 (a0.Wheel.Coins.map cI)) zau zaO ?_
    refine zbA (n:=a0.Wheel.Coins.length) (by decide) rfl (List.length_map _) zaB ?_
    refine Oi (.b (decide (v11≥(a0.Wheel.Coins.length:Int)))) ?_
    refine Om (.b (decide (v11≥(a0.Wheel.Coins.length:Int)))) ?_
    rcases bft (decide (v11≥(a0.Wheel.Coins.length:Int))) with hb22 | hb22
    ·replace hM:=ifT hM hb22
     refine On (want:=false) hb22 ?_
     refine On (want:=false) hb22 ?_
     refine On (want:=false) hb22 ?_
     refine Pt (.b true) hb22 ?_
     refine Ni ?_
     exact zal true (.k (.k (.k (.k (.k (.k (.k (.k (.k (.k .nil)))))))))) ⟨(hS.keep [true] rfl).up (by omega),hM⟩
    ·replace hM:=ifF hM hb22
     refine Oy (want:=false) hb22 ?_
     refine Om (.i x17) ?_
     refine Oy (want:=false) hb22 ?_
     obtain ⟨r23,hr23,hM⟩:=zai hM
     refine zaE (bs:=[.i x17,.i 0,.i 12]) (by decide) rfl rfl ((zdw hr23).le (.k (.k (.k .nil)))) ?_
     refine Oy (want:=false) hb22 ?_
     refine zd4 (e:=r23) (by decide) rfl ?_
     refine Pf (.b (!r23)) hb22 ?_
     refine Ni ?_
     exact zal (!r23) (.k (.k (.k (.k (.k (.k (.k (.k (.k (.k .nil)))))))))) ⟨(hS.keep [true] rfl).up (by omega),hM⟩
  ·replace hM:=ifF hM hb16
   refine Cf hb16 ?_
   refine zb1 ?_
   refine zaA ?_
   refine zaz ?_
   refine zaL ?_
   exact zal (v10,v12,v13,v14,v15) (.k (.k (.k .nil))) ⟨(hS.keep [true] rfl).up (by omega),hM⟩
theorem zgS {n:Nat} {a0:Wheel} {a1:List Int} {a2:Bool} {r:Spot_×Int} (hM:zfQ n a0 a1 a2=some (none,r)):zaH Try.prog 77 [.agg (Wheel.cells a0),.sl .no 1 (a1.map cI),fnB a2] (.tup [.v (.pointer none),.agg [.i r.1.left.c0,.i r.1.left.c1,.i r.1.left.c2,.i r.1.left.c3,.i r.1.place,.i r.1.credit],.i r.2]):=by
 refine zak mixed Try.func77 rfl (by decide) Try.ntmps77 (by simp) ?pure fun H0 g hf=>?_
 case pure=>exact .tup _ (zab (.v _) (zab (.agg _ (zab (.v _) (zab (.v _) (zab (.v _) (zab (.v _) (zab (.v _) (zab (.v _) zaF))))))) (zab (.v _) zaF)))
 rw [zag]
 change wpA _ _ _ _ (Fr.of [(0,.agg (Wheel.cells a0)),(1,.sl .no 1 (a1.map cI)),(2,fnB a2)]) H0 g
 have hS:=St.start hf
 refine Sq ?_
 refine Rg 5 ?_
 refine zb4 (v:=.agg (Wheel.cells a0)) (cs:=(Wheel.cells a0)) hS (by decide) rfl rfl (by omega) fun H hS=>?_
 refine zb4 (v:=.sl .no 1 (a1.map cI)) (cs:=[.sl .no 1 (a1.map cI)]) hS (by decide) rfl rfl (by omega) fun H hS=>?_
 refine Oa (.v (.pointer none)) ?_
 refine za3 hS (by decide) zcF (by omega) fun H hS=>?_
 refine Oa (.i 0) ?_
 refine Ni ?_
 refine zaX (L':=[(g+3,.cells [.i 0,.i 0,.i 0,.i 0,.i 0,.i 0]),(g+1,.cells [.sl .no 1 (a1.map cI)])]) 2 3 hS rfl rfl rfl fun H hS=>?_
 refine zaX (L':=[(g+3,.cells [.i 0,.i 0,.i 0,.i 0,.i 0,.i 0])]) 1 4 hS rfl rfl rfl fun H hS=>?_
 refine Ws ?_
 refine Sq ?_
 refine Rg 1 ?_
 refine za3 hS (by decide) zcF (by omega) fun H hS=>?_
 refine Ni ?_
 refine Ws ?_
 refine Sq ?_
 refine Rg 9 ?_
 refine Olg (.agg (Wheel.cells a0)) zbk ?_
 refine zet (first:=[]) (cap:=[.ep [.sl .no 1 (a1.map cI)],.ptr (g+5+0) 0]) (by decide) rfl rfl ?_
 obtain ⟨r1,hr1,hM⟩:=zai hM
 have hndr1:=hS.nd_at (ns:=[0]) (M:=[(g+5+0,.cells [.i 0,.i 0,.i 0,.i 0,.i 0,.i 0])]) (M':=[(g+5+0,.cells (Spot_.cells r1.2))]) (.cons rfl .nil) (by decide)
 have hncr1:=hS.nd_at (ns:=[0]) (M:=[(g+5+0,.cells [.i 0,.i 0,.i 0,.i 0,.i 0,.i 0])]) (M':=[(g+5+0,.cells (Spot_.cells r1.2))]) (.cons rfl .nil) (by decide)
 refine zkJ (bs:=[.agg (Wheel.cells a0),.fn (.func 107) [] [.ep [.sl .no 1 (a1.map cI)],.ptr (g+5+0) 0]]) (M:=[(g+5+0,.cells [.i 0,.i 0,.i 0,.i 0,.i 0,.i 0])]) (M':=[(g+5+0,.cells (Spot_.cells r1.2))]) (L':=[(g+5+0,.cells (Spot_.cells r1.2)),(g+3,.cells [.i 0,.i 0,.i 0,.i 0,.i 0,.i 0])]) [0] (.inl rfl) hS (by decide) rfl rfl ((zhH (Lo:=(fun (s:Spot_)=>[(g+5+0,.cells (Spot_.cells s))]))  (fun _ _=>(zfO zh9)) (fun _=>hndr1) (fun s=>(zjN (zfH (zcm (.inl (.inl (.v _))) (zcm (.inl (.inl (.v _))) (zcm (.inl (.inl (.v _))) (zcm (.inl (.inl (.v _))) (zcm (.inl (.inl (.v _))) (zcm (.inl (.inl (.v _))) ziH)))))) zjM) zgB)) (aF:=(fun (x0:Wheel_) s=>zdi n x0 a1 s)) (fun s H hH=>(.fn _ _ _ zd3 (zbU (.ep _ (zbU (show Go.AM.Pure _ from .sl _ _ (zav (fun x=>(zab (.v _) zaF)))).inH zd3)) (zbU (znl hH 0 rfl) zd3)))) rfl (fun h=>zkS (zhK (p1:=g+5+0)  hncr1 h)) hr1).le (.k (.k .nil))) (.cons rfl .nil) rfl (by omega) fun H hS=>?_
 refine Om (.tup [.agg (Wheel.cells r1.1.1.Wheel),.i r1.1.2]) ?_
 refine Ox (.agg (Wheel.cells r1.1.1.Wheel)) ?_
 refine Ox (.i r1.1.2) ?_
 refine za3 hS (by decide) zez (by omega) fun H hS=>?_
 refine zaJ (v:=.agg (Wheel.cells r1.1.1.Wheel)) (ns:=(Wheel.cells r1.1.1.Wheel)) (L':=[(g+5+1+6,.cells (Wheel.cells r1.1.1.Wheel)),(g+5+0,.cells (Spot_.cells r1.2)),(g+3,.cells [.i 0,.i 0,.i 0,.i 0,.i 0,.i 0])]) 0 hS rfl rfl .no rfl rfl zgL nlb rfl fun H hS=>?_
 refine Oa (.i r1.1.2) ?_
 refine Ni ?_
 refine zaX (L':=[(g+5+0,.cells (Spot_.cells r1.2)),(g+3,.cells [.i 0,.i 0,.i 0,.i 0,.i 0,.i 0])]) 0 10 hS rfl rfl rfl fun H hS=>?_
 refine Ws ?_
 refine Sq ?_
 refine Sq ?_
 refine Rg 2 ?_
 refine Om (.i r1.1.2) ?_
 refine Oi (.b (r1.1.2 != 0)) ?_
 refine Ni ?_
 refine Ws ?_
 rcases bft (r1.1.2 != 0) with hb2 | hb2
 ·replace hM:=ifT hM hb2
  refine Ct hb2 ?_
  refine Sq ?_
  refine Rg 5 ?_
  refine zbx (cs:=[.i 0,.i 0,.i 0,.i 0,.i 0,.i 0]) (by decide) zcF zpt rfl ?_
  refine Om (.i r1.1.2) ?_
  refine Oa (.v (.pointer none)) ?_
  refine zaJ (v:=.agg [.i 0,.i 0,.i 0,.i 0,.i 0,.i 0]) (ns:=[.i 0,.i 0,.i 0,.i 0,.i 0,.i 0]) (L':=[(g+5+0,.cells (Spot_.cells r1.2)),(g+3,.cells [.i 0,.i 0,.i 0,.i 0,.i 0,.i 0])]) 1 hS rfl rfl .no rfl rfl zdP nlb rfl fun H hS=>?_
  refine Oa (.i r1.1.2) ?_
  refine Ni ?_
  replace hS:=hS.keep (L':=[(g+3,.cells [.i 0,.i 0,.i 0,.i 0,.i 0,.i 0])]) [false,true] rfl
  refine Ws ?_
  refine zaR ?_
  refine zam ?_
  refine zaZ (x:=.tup [.v (.pointer none),.agg [.i 0,.i 0,.i 0,.i 0,.i 0,.i 0],.i r1.1.2]) (f:=fun r:Spot_×Int=>.tup [.v (.pointer none),.agg [.i r.1.left.c0,.i r.1.left.c1,.i r.1.left.c2,.i r.1.left.c3,.i r.1.place,.i r.1.credit],.i r.2]) (.inr rfl) ?_ (.refl _) (show ((⟨(⟨0,0,0,0⟩:Bag_),0,0⟩:Spot_),r1.1.2)=r from by injection hM with hM;exact (Prod.mk.inj hM).2) hS
  exact (zfY (zae (x:=.v (.pointer none)) rfl) (zcA (x:=.agg [.i 0,.i 0,.i 0,.i 0,.i 0,.i 0]) 0 hS rfl rfl (pg zb8)) (zae (x:=.i r1.1.2) rfl))
 ·replace hM:=ifF hM hb2
  refine Cf hb2 ?_
  refine zaD ?_
  refine Ws ?_
  refine Sq ?_
  have hS0:=hS
  refine zck (n:=9) rfl (by kernel_rfl) ?_
  refine Olg (.agg (Wheel.cells r1.1.1.Wheel)) zc6 ?_
  refine Om (fnB a2) ?_
  refine znm (kv:=zan) hS (by decide) zi0 (by omega) fun H hS=>?_
  refine zbx (cs:=(zbu r1.1.1 a2 (g+5+1+9+2+2))) (by decide) zl2 zpw rfl ?_
  refine zb4 (v:=.agg (zbu r1.1.1 a2 (g+5+1+9+2+2))) (cs:=(zbu r1.1.1 a2 (g+5+1+9+2+2))) hS (by decide) rfl rfl (by omega) fun H hS=>?_
  refine zaV (v:=.agg (Spot_.cells r1.2)) 2 hS (by decide) rfl rfl (.st hS0 0 rfl (by omega)) (pg zb8) ?_
  refine Oa (.ptr (g+5+1+9+2+4) 0) ?_
  refine zaJ (v:=.agg (Spot_.cells r1.2)) (ns:=(Spot_.cells r1.2)) (L':=[(g+5+1+9+2+4,.cells (zbu r1.1.1 a2 (g+5+1+9+2+2))),(g+5+1+9+2+2,.obj none (zaf (mpv zan ([]:List (Spot_×Int))))),(g+5+0,.cells (Spot_.cells r1.2)),(g+3,.cells (Spot_.cells r1.2))]) 3 hS rfl rfl (.st hS0 1 rfl (by omega)) rfl rfl zdP nlb rfl fun H hS=>?_
  refine Oa (.i 0) ?_
  refine Ni ?_
  refine zaX (L':=[(g+5+1+9+2+2,.obj none (zaf (mpv zan ([]:List (Spot_×Int))))),(g+5+0,.cells (Spot_.cells r1.2)),(g+3,.cells (Spot_.cells r1.2))]) 0 6 hS rfl rfl rfl fun H hS=>?_
  replace hS:=hS.keep (L':=[(g+5+1+9+2+2,.obj none (zaf (mpv zan ([]:List (Spot_×Int))))),(g+3,.cells (Spot_.cells r1.2))]) [true,false,true] rfl
  refine zeF [(6,.ep (zbu r1.1.1 a2 (g+5+1+9+2+2))),(7,.ptr (g+3) 0),(8,.i 0)] (.k (.k (.k .nil))) ?_
  refine zaR ?_
  exact nomatch congrArg (fun o=>(o.map (fun x:Option Wheel_×Spot_×Int=>x.1.isSome)).getD false) hM
theorem zgT {n:Nat} {a0:Wheel} {a1:List Int} {a2:Bool} {w:Wheel_} {r:Spot_×Int} (hM:zfQ n a0 a1 a2=some (some w,r)):zqA Try.prog 77 [.agg (Wheel.cells a0),.sl .no 1 (a1.map cI),fnB a2] (fun i=>.tup [.ep (zbu w a2 i),.agg [.i r.1.left.c0,.i r.1.left.c1,.i r.1.left.c2,.i r.1.left.c3,.i r.1.place,.i r.1.credit],.i r.2]) (zaf (mpv zan [])) 19:=by
 refine zoz mixed Try.func77 rfl (by decide) Try.ntmps77 (by simp) ?pure fun H0 g hf=>?_
 case pure=>exact fun g H h=>.tup _ (zbU (.ep _ (zbU (show Go.AM.Pure _ from .v _).inH (zbU (show Go.AM.Pure _ from .sl _ _ (zav (fun x=>(zab (.v _) zaF)))).inH (zbU (show Go.AM.Pure _ from .sl _ _ (zav (fun x=>(zab (.v _) zaF)))).inH (zbU (show Go.AM.Pure _ from zpD _).inH (zbU (.mp _ _ _ h) zd3)))))) (zbU (show Go.AM.Pure _ from .agg _ (zab (.v _) (zab (.v _) (zab (.v _) (zab (.v _) (zab (.v _) (zab (.v _) zaF))))))).inH (zbU (show Go.AM.Pure _ from .v _).inH zd3)))
 rw [zag]
 change wpA _ _ _ _ (Fr.of [(0,.agg (Wheel.cells a0)),(1,.sl .no 1 (a1.map cI)),(2,fnB a2)]) H0 g
 have hS:=St.start hf
 refine Sq ?_
 refine Rg 5 ?_
 refine zb4 (v:=.agg (Wheel.cells a0)) (cs:=(Wheel.cells a0)) hS (by decide) rfl rfl (by omega) fun H hS=>?_
 refine zb4 (v:=.sl .no 1 (a1.map cI)) (cs:=[.sl .no 1 (a1.map cI)]) hS (by decide) rfl rfl (by omega) fun H hS=>?_
 refine Oa (.v (.pointer none)) ?_
 refine za3 hS (by decide) zcF (by omega) fun H hS=>?_
 refine Oa (.i 0) ?_
 refine Ni ?_
 refine zaX (L':=[(g+3,.cells [.i 0,.i 0,.i 0,.i 0,.i 0,.i 0]),(g+1,.cells [.sl .no 1 (a1.map cI)])]) 2 3 hS rfl rfl rfl fun H hS=>?_
 refine zaX (L':=[(g+3,.cells [.i 0,.i 0,.i 0,.i 0,.i 0,.i 0])]) 1 4 hS rfl rfl rfl fun H hS=>?_
 refine Ws ?_
 refine Sq ?_
 refine Rg 1 ?_
 refine za3 hS (by decide) zcF (by omega) fun H hS=>?_
 refine Ni ?_
 refine Ws ?_
 refine Sq ?_
 refine Rg 9 ?_
 refine Olg (.agg (Wheel.cells a0)) zbk ?_
 refine zet (first:=[]) (cap:=[.ep [.sl .no 1 (a1.map cI)],.ptr (g+5+0) 0]) (by decide) rfl rfl ?_
 obtain ⟨r1,hr1,hM⟩:=zai hM
 have hndr1:=hS.nd_at (ns:=[0]) (M:=[(g+5+0,.cells [.i 0,.i 0,.i 0,.i 0,.i 0,.i 0])]) (M':=[(g+5+0,.cells (Spot_.cells r1.2))]) (.cons rfl .nil) (by decide)
 have hncr1:=hS.nd_at (ns:=[0]) (M:=[(g+5+0,.cells [.i 0,.i 0,.i 0,.i 0,.i 0,.i 0])]) (M':=[(g+5+0,.cells (Spot_.cells r1.2))]) (.cons rfl .nil) (by decide)
 refine zkJ (bs:=[.agg (Wheel.cells a0),.fn (.func 107) [] [.ep [.sl .no 1 (a1.map cI)],.ptr (g+5+0) 0]]) (M:=[(g+5+0,.cells [.i 0,.i 0,.i 0,.i 0,.i 0,.i 0])]) (M':=[(g+5+0,.cells (Spot_.cells r1.2))]) (L':=[(g+5+0,.cells (Spot_.cells r1.2)),(g+3,.cells [.i 0,.i 0,.i 0,.i 0,.i 0,.i 0])]) [0] (.inl rfl) hS (by decide) rfl rfl ((zhH (Lo:=(fun (s:Spot_)=>[(g+5+0,.cells (Spot_.cells s))]))  (fun _ _=>(zfO zh9)) (fun _=>hndr1) (fun s=>(zjN (zfH (zcm (.inl (.inl (.v _))) (zcm (.inl (.inl (.v _))) (zcm (.inl (.inl (.v _))) (zcm (.inl (.inl (.v _))) (zcm (.inl (.inl (.v _))) (zcm (.inl (.inl (.v _))) ziH)))))) zjM) zgB)) (aF:=(fun (x0:Wheel_) s=>zdi n x0 a1 s)) (fun s H hH=>(.fn _ _ _ zd3 (zbU (.ep _ (zbU (show Go.AM.Pure _ from .sl _ _ (zav (fun x=>(zab (.v _) zaF)))).inH zd3)) (zbU (znl hH 0 rfl) zd3)))) rfl (fun h=>zkS (zhK (p1:=g+5+0)  hncr1 h)) hr1).le (.k (.k .nil))) (.cons rfl .nil) rfl (by omega) fun H hS=>?_
 refine Om (.tup [.agg (Wheel.cells r1.1.1.Wheel),.i r1.1.2]) ?_
 refine Ox (.agg (Wheel.cells r1.1.1.Wheel)) ?_
 refine Ox (.i r1.1.2) ?_
 refine za3 hS (by decide) zez (by omega) fun H hS=>?_
 refine zaJ (v:=.agg (Wheel.cells r1.1.1.Wheel)) (ns:=(Wheel.cells r1.1.1.Wheel)) (L':=[(g+5+1+6,.cells (Wheel.cells r1.1.1.Wheel)),(g+5+0,.cells (Spot_.cells r1.2)),(g+3,.cells [.i 0,.i 0,.i 0,.i 0,.i 0,.i 0])]) 0 hS rfl rfl .no rfl rfl zgL nlb rfl fun H hS=>?_
 refine Oa (.i r1.1.2) ?_
 refine Ni ?_
 refine zaX (L':=[(g+5+0,.cells (Spot_.cells r1.2)),(g+3,.cells [.i 0,.i 0,.i 0,.i 0,.i 0,.i 0])]) 0 10 hS rfl rfl rfl fun H hS=>?_
 refine Ws ?_
 refine Sq ?_
 refine Sq ?_
 refine Rg 2 ?_
 refine Om (.i r1.1.2) ?_
 refine Oi (.b (r1.1.2 != 0)) ?_
 refine Ni ?_
 refine Ws ?_
 rcases bft (r1.1.2 != 0) with hb2 | hb2
 ·replace hM:=ifT hM hb2
  refine Ct hb2 ?_
  refine Sq ?_
  refine Rg 5 ?_
  refine zbx (cs:=[.i 0,.i 0,.i 0,.i 0,.i 0,.i 0]) (by decide) zcF zpt rfl ?_
  refine Om (.i r1.1.2) ?_
  refine Oa (.v (.pointer none)) ?_
  refine zaJ (v:=.agg [.i 0,.i 0,.i 0,.i 0,.i 0,.i 0]) (ns:=[.i 0,.i 0,.i 0,.i 0,.i 0,.i 0]) (L':=[(g+5+0,.cells (Spot_.cells r1.2)),(g+3,.cells [.i 0,.i 0,.i 0,.i 0,.i 0,.i 0])]) 1 hS rfl rfl .no rfl rfl zdP nlb rfl fun H hS=>?_
  refine Oa (.i r1.1.2) ?_
  refine Ni ?_
  replace hS:=hS.keep (L':=[(g+3,.cells [.i 0,.i 0,.i 0,.i 0,.i 0,.i 0])]) [false,true] rfl
  refine Ws ?_
  refine zaR ?_
  refine zam ?_
  exact nomatch congrArg (fun o=>(o.map (fun x:Option Wheel_×Spot_×Int=>x.1.isSome)).getD true) hM
 ·replace hM:=ifF hM hb2
  refine Cf hb2 ?_
  refine zaD ?_
  refine Ws ?_
  refine Sq ?_
  have hS0:=hS
  refine zck (n:=9) rfl (by kernel_rfl) ?_
  refine Olg (.agg (Wheel.cells r1.1.1.Wheel)) zc6 ?_
  refine Om (fnB a2) ?_
  refine znm (kv:=zan) hS (by decide) zi0 (by omega) fun H hS=>?_
  refine zbx (cs:=(zbu r1.1.1 a2 (g+5+1+9+2+2))) (by decide) zl2 zpw rfl ?_
  refine zb4 (v:=.agg (zbu r1.1.1 a2 (g+5+1+9+2+2))) (cs:=(zbu r1.1.1 a2 (g+5+1+9+2+2))) hS (by decide) rfl rfl (by omega) fun H hS=>?_
  refine zaV (v:=.agg (Spot_.cells r1.2)) 2 hS (by decide) rfl rfl (.st hS0 0 rfl (by omega)) (pg zb8) ?_
  refine Oa (.ptr (g+5+1+9+2+4) 0) ?_
  refine zaJ (v:=.agg (Spot_.cells r1.2)) (ns:=(Spot_.cells r1.2)) (L':=[(g+5+1+9+2+4,.cells (zbu r1.1.1 a2 (g+5+1+9+2+2))),(g+5+1+9+2+2,.obj none (zaf (mpv zan ([]:List (Spot_×Int))))),(g+5+0,.cells (Spot_.cells r1.2)),(g+3,.cells (Spot_.cells r1.2))]) 3 hS rfl rfl (.st hS0 1 rfl (by omega)) rfl rfl zdP nlb rfl fun H hS=>?_
  refine Oa (.i 0) ?_
  refine Ni ?_
  refine zaX (L':=[(g+5+1+9+2+2,.obj none (zaf (mpv zan ([]:List (Spot_×Int))))),(g+5+0,.cells (Spot_.cells r1.2)),(g+3,.cells (Spot_.cells r1.2))]) 0 6 hS rfl rfl rfl fun H hS=>?_
  replace hS:=hS.keep (L':=[(g+5+1+9+2+2,.obj none (zaf (mpv zan ([]:List (Spot_×Int))))),(g+3,.cells (Spot_.cells r1.2))]) [true,false,true] rfl
  refine Ws ?_
  refine zaR ?_
  injection hM with hM
  injection hM with hm1 hm2
  injection hm1 with hm1
  subst hm1 hm2
  exact zuM (x:=.tup [.ep (zbu r1.1.1 a2 (g+5+1+9+2+2)),.agg (Spot_.cells r1.2),.i 0]) (mk:=fun i=>.tup [.ep (zbu r1.1.1 a2 i),.agg (Spot_.cells r1.2),.i 0]) 0 (.inr rfl) (zfY (zae (x:=.ep (zbu r1.1.1 a2 (g+5+1+9+2+2))) rfl) (zcA (x:=.agg (Spot_.cells r1.2)) 1 hS rfl rfl (pg zb8)) (zae (x:=.i 0) rfl)) (.refl _) hS rfl rfl (by omega)
theorem zgb {n:Nat} {a0:Wheel_} {a1:Spot_} {a2:Int} {a3:Bool} {r:Spot_×Int} (hM:zce n a0 a1 a2 a3=some r):zaH Try.prog 143 [.agg (Wheel.cells a0.Wheel),.agg (Spot_.cells a1),.i a2,.b a3] (.tup [.agg [.i r.1.left.c0,.i r.1.left.c1,.i r.1.left.c2,.i r.1.left.c3,.i r.1.place,.i r.1.credit],.i r.2]):=by
 refine zak mixed Try.func143 rfl (by decide) Try.ntmps143 (by simp) ?pure fun H0 g hf=>?_
 case pure=>exact .tup _ (zab (.agg _ (zab (.v _) (zab (.v _) (zab (.v _) (zab (.v _) (zab (.v _) (zab (.v _) zaF))))))) (zab (.v _) zaF))
 rw [zag]
 change wpA _ _ _ _ (Fr.of [(0,.agg (Wheel.cells a0.Wheel)),(1,.agg (Spot_.cells a1)),(2,.i a2),(3,.b a3)]) H0 g
 have hS:=St.start hf
 refine Sq ?_
 refine Rg 4 ?_
 refine zb4 (v:=.agg (Wheel.cells a0.Wheel)) (cs:=(Wheel.cells a0.Wheel)) hS (by decide) rfl rfl (by omega) fun H hS=>?_
 refine zb4 (v:=.agg (Spot_.cells a1)) (cs:=(Spot_.cells a1)) hS (by decide) rfl rfl (by omega) fun H hS=>?_
 refine za3 hS (by decide) zcF (by omega) fun H hS=>?_
 refine Oa (.i 0) ?_
 refine Ni ?_
 refine zaX (L':=[(g+2,.cells [.i 0,.i 0,.i 0,.i 0,.i 0,.i 0]),(g+1,.cells (Spot_.cells a1))]) 2 4 hS rfl rfl rfl fun H hS=>?_
 refine Ws ?_
 refine za1 (J:=Int×Int×Int×Int×Int×Int) (fun j=>[(2,.i a2),(4,.ep (Wheel.cells a0.Wheel)),(5,.ptr (g+1) 0),(8,.ptr (g+2) 0)]) (fun j H' g'=>St (·<g) H0 [(g+2,.cells [.i 0,.i 0,.i 0,.i 0,.i 0,.i 0]),(g+1,.cells [.i j.1,.i j.2.1,.i j.2.2.1,.i j.2.2.2.1,.i j.2.2.2.2.1,.i j.2.2.2.2.2])] H' g'/\zbt n a0 a2 j.1 j.2.1 j.2.2.1 j.2.2.2.1 j.2.2.2.2.1 j.2.2.2.2.2=some r) ?_ ?_
 ·rintro ⟨v1,v2,v3,v4,v5,v6⟩ H g1 ⟨hS,hM⟩
  change wpA _ _ _ _ (Fr.of [(2,.i a2),(4,.ep (Wheel.cells a0.Wheel)),(5,.ptr (g+1) 0),(8,.ptr (g+2) 0)]) _ _
  replace hS:St (·<g) H0 [(g+2,.cells [.i 0,.i 0,.i 0,.i 0,.i 0,.i 0]),(g+1,.cells [.i v1,.i v2,.i v3,.i v4,.i v5,.i v6])] H g1:=hS
  replace hM:zbt n a0 a2 v1 v2 v3 v4 v5 v6=some r:=hM
  refine Sq ?_
  have hS0:=hS
  refine zck (n:=15) rfl (by kernel_rfl) ?_
  refine Olg (.agg (Wheel.cells a0.Wheel)) zc6 ?_
  refine zaw (by decide) zhX rfl ?_
  refine zaV (v:=.i v5) 1 hS (by decide) rfl rfl (.st hS0 1 rfl (by omega)) (po zah zar) ?_
  refine Of ((Wheel.cells a0.Wheel)) zcG ?_
  refine Of ((Wheel.cells a0.Wheel)) zbL ?_
  refine Olp (.sl .no 1 (a0.Wheel.Coins.map cI)) zau zaO ?_
  refine Om (.i a2) ?_
  obtain ⟨x7,hx7,hM⟩:=zai hM
  refine za5 (xs:=a0.Wheel.Coins) (f:=cI) (z:=a2) (u:=x7) (by decide) rfl rfl zay hx7 ?_
  refine Olp (.i x7) zah zar ?_
  obtain ⟨r8,hr8,hM⟩:=zai hM
  refine zaE (bs:=[.agg (Wheel.cells a0.Wheel),.i v5,.i x7]) (by decide) rfl rfl ((zgu hr8).le (.k (.k (.k .nil)))) ?_
  refine Om (.tup [.i r8.1,.i r8.2]) ?_
  refine Ox (.i r8.1) ?_
  refine Ox (.i r8.2) ?_
  refine Oa (.i r8.1) ?_
  refine Oa (.i r8.2) ?_
  refine Ni ?_
  refine Ws ?_
  refine Sq ?_
  refine Rg 8 ?_
  refine Om (.i a2) ?_
  refine zaw (by decide) zgN rfl ?_
  obtain ⟨x9,hx9,hM⟩:=zai hM
  refine zfg (z:=a2) (by decide) rfl rfl ziX (zfs hx9) ?_
  refine zkP (xs:=([v1,v2,v3,v4]:List Int)) (z:=a2) (u:=x9) (off:=0+0) 1 hS (by decide) rfl rfl .no rfl hx9 zah zar ?_
  refine Oi (.i (w64 (x9-1))) ?_
  refine zaw (by decide) zgN rfl ?_
  obtain ⟨x10,hx10,hM⟩:=zai hM
  refine zfg (z:=a2) (by decide) rfl rfl ziX (zfs hx10) ?_
  obtain ⟨l11,hl11,hM⟩:=zai hM
  refine ziP (xs:=([v1,v2,v3,v4]:List Int)) (u:=l11) (z:=a2) (v:=(w64 (x9-1))) (off:=0+0) (cs':=[.i (l11.getD 0 0),.i (l11.getD 1 0),.i (l11.getD 2 0),.i (l11.getD 3 0),.i v5,.i v6]) (L':=[(g+2,.cells [.i 0,.i 0,.i 0,.i 0,.i 0,.i 0]),(g+1,.cells [.i (l11.getD 0 0),.i (l11.getD 1 0),.i (l11.getD 2 0),.i (l11.getD 3 0),.i v5,.i v6])]) 1 hS rfl rfl .no rfl rfl hl11 zen rfl rfl fun H hS=>?_
  refine Ni ?_
  refine Ws ?_
  refine Sq ?_
  refine Rg 9 ?_
  refine Om (.i r8.1) ?_
  refine zaw (by decide) ze2 rfl ?_
  refine zaV (v:=.i v6) 1 hS (by decide) rfl rfl .no (po zah zar) ?_
  refine Om (.i r8.2) ?_
  refine Oi (.i (w64 (v6+r8.2))) ?_
  refine zaw (by decide) zhX rfl ?_
  refine zaJ (v:=.i r8.1) (ns:=[.i r8.1]) (L':=[(g+2,.cells [.i 0,.i 0,.i 0,.i 0,.i 0,.i 0]),(g+1,.cells [.i (l11.getD 0 0),.i (l11.getD 1 0),.i (l11.getD 2 0),.i (l11.getD 3 0),.i r8.1,.i v6])]) 1 hS rfl rfl .no rfl rfl zen nlb rfl fun H hS=>?_
  refine zaw (by decide) ze2 rfl ?_
  refine zaJ (v:=.i (w64 (v6+r8.2))) (ns:=[.i (w64 (v6+r8.2))]) (L':=[(g+2,.cells [.i 0,.i 0,.i 0,.i 0,.i 0,.i 0]),(g+1,.cells [.i (l11.getD 0 0),.i (l11.getD 1 0),.i (l11.getD 2 0),.i (l11.getD 3 0),.i r8.1,.i (w64 (v6+r8.2))])]) 1 hS rfl rfl .no rfl rfl zen nlb rfl fun H hS=>?_
  refine Ni ?_
  refine Ws ?_
  refine Sq ?_
  refine Rg 4 ?_
  refine zaV (v:=.agg [.i (l11.getD 0 0),.i (l11.getD 1 0),.i (l11.getD 2 0),.i (l11.getD 3 0),.i r8.1,.i (w64 (v6+r8.2))]) 1 hS (by decide) rfl rfl .no (pg zb8) ?_
  refine Om (.i r8.2) ?_
  refine zaJ (v:=.agg [.i (l11.getD 0 0),.i (l11.getD 1 0),.i (l11.getD 2 0),.i (l11.getD 3 0),.i r8.1,.i (w64 (v6+r8.2))]) (ns:=[.i (l11.getD 0 0),.i (l11.getD 1 0),.i (l11.getD 2 0),.i (l11.getD 3 0),.i r8.1,.i (w64 (v6+r8.2))]) (L':=[(g+2,.cells [.i (l11.getD 0 0),.i (l11.getD 1 0),.i (l11.getD 2 0),.i (l11.getD 3 0),.i r8.1,.i (w64 (v6+r8.2))]),(g+1,.cells [.i (l11.getD 0 0),.i (l11.getD 1 0),.i (l11.getD 2 0),.i (l11.getD 3 0),.i r8.1,.i (w64 (v6+r8.2))])]) 0 hS rfl rfl .no rfl rfl zdP nlb rfl fun H hS=>?_
  refine Oa (.i r8.2) ?_
  refine Ni ?_
  replace hS:=hS.keep (L':=[(g+2,.cells [.i (l11.getD 0 0),.i (l11.getD 1 0),.i (l11.getD 2 0),.i (l11.getD 3 0),.i r8.1,.i (w64 (v6+r8.2))])]) [true,false] rfl
  refine Ws ?_
  refine zaR ?_
  refine zaZ (x:=.tup [.agg [.i (l11.getD 0 0),.i (l11.getD 1 0),.i (l11.getD 2 0),.i (l11.getD 3 0),.i r8.1,.i (w64 (v6+r8.2))],.i r8.2]) (f:=fun r=>.tup [.agg [.i r.1.left.c0,.i r.1.left.c1,.i r.1.left.c2,.i r.1.left.c3,.i r.1.place,.i r.1.credit],.i r.2]) (.inr rfl) ?_ (.refl _) (Option.some.inj hM) hS
  exact (zcl (zcA (x:=.agg [.i (l11.getD 0 0),.i (l11.getD 1 0),.i (l11.getD 2 0),.i (l11.getD 3 0),.i r8.1,.i (w64 (v6+r8.2))]) 0 hS rfl rfl (pg zb8)) (zae (x:=.i r8.2) rfl))
 ·refine Sq ?_
  refine Rg 1 ?_
  refine Om (.b a3) ?_
  refine Ni ?_
  refine Ws ?_
  rcases bft a3 with hb12 | hb12
  ·replace hM:=ifT hM hb12
   refine Ct hb12 ?_
   refine Rg 7 ?_
   refine zaw (by decide) ze2 rfl ?_
   refine zaV (v:=.i a1.credit) 1 hS (by decide) rfl rfl .no (po zah zar) ?_
   refine Oi (.i (w64 (a1.credit-1))) ?_
   refine zaw (by decide) zhX rfl ?_
   refine zaJ (v:=.i 0) (ns:=[.i 0]) (L':=[(g+2,.cells [.i 0,.i 0,.i 0,.i 0,.i 0,.i 0]),(g+1,.cells [.i a1.left.c0,.i a1.left.c1,.i a1.left.c2,.i a1.left.c3,.i 0,.i a1.credit])]) 1 hS rfl rfl .no rfl rfl zen nlb rfl fun H hS=>?_
   refine zaw (by decide) ze2 rfl ?_
   refine zaJ (v:=.i (w64 (a1.credit-1))) (ns:=[.i (w64 (a1.credit-1))]) (L':=[(g+2,.cells [.i 0,.i 0,.i 0,.i 0,.i 0,.i 0]),(g+1,.cells [.i a1.left.c0,.i a1.left.c1,.i a1.left.c2,.i a1.left.c3,.i 0,.i (w64 (a1.credit-1))])]) 1 hS rfl rfl .no rfl rfl zen nlb rfl fun H hS=>?_
   refine Ni ?_
   exact zal (a1.left.c0,a1.left.c1,a1.left.c2,a1.left.c3,0,w64 (a1.credit-1)) (.k (.k (.k (.k .nil)))) ⟨(hS.keep [true,true] rfl).up (by omega),hM⟩
  ·replace hM:=ifF hM hb12
   refine Cf hb12 ?_
   refine zaD ?_
   exact zal (a1.left.c0,a1.left.c1,a1.left.c2,a1.left.c3,a1.place,a1.credit) (.k (.k (.k (.k .nil)))) ⟨(hS.keep [true,true] rfl).up (by omega),hM⟩
theorem zis {S:Type} {Lo:S->BL} (hk:∀s s',zls (Lo s) (Lo s')) {m0:Nat} (hnd:∀s,(ids (Lo s)).Nodup) (hin:∀s,InB In (Lo s)) {aF:(List Int)->Spot_->Int->S->Option (Bool×S)} {f0:AV} (hF:∀s H,Has H (Lo s)->In H f0) (h0:cellsOf f0=some [f0]) (hf:∀{x0:List Int} {x1:Spot_} {x2:Int} {s:S} {r:Bool×S},aF x0 x1 x2 s=some r->zpZ Try.prog f0 [.sl .no 1 (x0.map cI),.agg (Spot_.cells x1),.i x2] (Lo s) (.b r.1) (Lo r.2)) {n:Nat} {a0:Wheel_×Bool} {a1:Spot_} {st:S} {r:Unit×S} (hM:ze1 n aF a0 a1 st=some r):zjZ Try.prog 108 [.ep (zbu a0.1 a0.2 m0),.agg (Spot_.cells a1),f0] (Lo st) (.tup []) (Lo r.2):=by
 have hnd0:∀s,(ids (Lo s)).Nodup:=fun s=>hnd s
 refine zds mixed Try.func108 rfl (by decide) Try.ntmps108 (by simp) (hk _ _) (hnd st) ?pure ?cells fun H0 g hf_ hp=>?_
 case pure=>exact fun H _=>(show Go.AM.Pure _ from .tup _ zaF).inH
 case cells=>exact hin _
 rw [zag]
 change wpA _ _ _ _ (Fr.of [(0,.ep (zbu a0.1 a0.2 m0)),(1,.agg (Spot_.cells a1)),(2,f0)]) H0 g
 have hS:=St.startH (L:=([]++Lo st)) hf_ (hnd st) hp
 replace hS:St (fun i=>i<g/\i∉ids (Lo st)) H0 ([]++Lo st) H0 g:=hS
 refine Sq ?_
 refine Rg 1 ?_
 refine zb4 (v:=.agg (Spot_.cells a1)) (cs:=(Spot_.cells a1)) hS (by decide) rfl rfl (by omega) fun H hS=>?_
 refine Ni ?_
 refine zaX (L':=([]++Lo st)) 0 4 hS rfl rfl rfl fun H hS=>?_
 refine Ws ?_
 refine Sq ?_
 refine Rg 8 ?_
 refine Om (.ep (zbu a0.1 a0.2 m0)) ?_
 refine zlT (by decide) rfl ?_
 refine Of ((zbu a0.1 a0.2 m0)) zjx ?_
 refine Of ((zbu a0.1 a0.2 m0)) zcG ?_
 refine Of ((zbu a0.1 a0.2 m0)) zbL ?_
 refine Olp (.sl .no 1 (a0.1.Wheel.Coins.map cI)) zau zaO ?_
 refine zbA (n:=a0.1.Wheel.Coins.length) (by decide) rfl (List.length_map _) zaB ?_
 refine Om (.i 0) ?_
 refine Ni ?_
 refine Ws ?_
 refine zaK ?_
 refine zct (V:=Int×Int×Int×Int×Int×S) (fun v=>[(0,.ep (zbu a0.1 a0.2 m0)),(2,f0),(4,.ep [.i v.1,.i v.2.1,.i v.2.2.1,.i v.2.2.2.1,.i a1.place,.i a1.credit]),(17,.i (a0.1.Wheel.Coins.length:Int)),(18,.i v.2.2.2.2.1)]) (fun v m2 H' g'=>St (fun i=>i<g/\i∉ids (Lo st)) H0 ([]++Lo v.2.2.2.2.2) H' g'/\zaU n a0 a1 aF m2 v.1 v.2.1 v.2.2.1 v.2.2.2.1 v.2.2.2.2.1 v.2.2.2.2.2=some r) (n:=n) (a1.left.c0,a1.left.c1,a1.left.c2,a1.left.c3,0,st) (.k (.k (.k (.k (.k .nil))))) ⟨(hS.keep [] rfl).up (by omega),hM⟩ ?_
 rintro ⟨v2,v3,v4,v5,v6,v7⟩ m2 H g2 ⟨hS,hM⟩
 obtain _ | m2:=m2
 ·exact nomatch (show none=some _ from hM)
 change wpA _ _ _ _ (Fr.of [(0,.ep (zbu a0.1 a0.2 m0)),(2,f0),(4,.ep [.i v2,.i v3,.i v4,.i v5,.i a1.place,.i a1.credit]),(17,.i (a0.1.Wheel.Coins.length:Int)),(18,.i v6)]) _ _
 replace hS:St (fun i=>i<g/\i∉ids (Lo st)) H0 ([]++Lo v7) H g2:=hS
 replace hM:zcJ n a0 a1 aF (zaU n a0 a1 aF m2) v2 v3 v4 v5 v6 v7=some r:=hM
 refine Sq ?_
 refine Rg 1 ?_
 refine Oi (.b (decide (v6<(a0.1.Wheel.Coins.length:Int)))) ?_
 refine Ni ?_
 refine Ws ?_
 refine Sq ?_
 rcases bft (decide (v6<(a0.1.Wheel.Coins.length:Int))) with hb8 | hb8
 ·replace hM:=ifT hM hb8
  refine Ct hb8 ?_
  refine zaD ?_
  refine Ws ?_
  refine za1 (J:=S) (fun j=>[(0,.ep (zbu a0.1 a0.2 m0)),(2,f0),(4,.ep [.i v2,.i v3,.i v4,.i v5,.i a1.place,.i a1.credit]),(17,.i (a0.1.Wheel.Coins.length:Int)),(18,.i v6)]) (fun j H' g'=>St (fun i=>i<g/\i∉ids (Lo st)) H0 ([]++Lo j) H' g'/\zbf (zaU n a0 a1 aF m2) v2 v3 v4 v5 v6 j=some r) ?_ ?_
  ·rintro v9 H g3 ⟨hS,hM⟩
   change wpA _ _ _ _ (Fr.of [(0,.ep (zbu a0.1 a0.2 m0)),(2,f0),(4,.ep [.i v2,.i v3,.i v4,.i v5,.i a1.place,.i a1.credit]),(17,.i (a0.1.Wheel.Coins.length:Int)),(18,.i v6)]) _ _
   replace hS:St (fun i=>i<g/\i∉ids (Lo st)) H0 ([]++Lo v9) H g3:=hS
   replace hM:zbf (zaU n a0 a1 aF m2) v2 v3 v4 v5 v6 v9=some r:=hM
   refine Rg 2 ?_
   refine Oi (.i (w64 (v6+1))) ?_
   refine Om (.i (w64 (v6+1))) ?_
   refine Ni ?_
   exact zbq (v2,v3,v4,v5,w64 (v6+1),v9) (Nat.lt_succ_self _) (.k (.k (.k (.k (.k .nil))))) ⟨(hS.keep [] rfl).up (by omega),hM⟩
  ·refine zaK ?_
   refine Sq ?_
   refine Rg 2 ?_
   refine Om (.i v6) ?_
   refine Oa (.i v6) ?_
   refine Ni ?_
   refine Ws ?_
   refine Sq ?_
   refine Sq ?_
   refine Rg 5 ?_
   refine Om (.i v6) ?_
   refine Of ([.i v2,.i v3,.i v4,.i v5,.i a1.place,.i a1.credit]) zgN ?_
   obtain ⟨x10,hx10,hM⟩:=zai hM
   refine zrR (cs:=[.i v2,.i v3,.i v4,.i v5,.i a1.place,.i a1.credit]) (z:=v6) (by decide) rfl rfl ziX (zfs hx10) ?_
   refine zos (v:=.i x10) (by decide) rfl (zrS (xs:=([v2,v3,v4,v5]:List Int)) zah zar rfl hx10) ?_
   refine Oi (.b (x10==0)) ?_
   refine Ni ?_
   refine Ws ?_
   rcases bft (x10==0) with hb11 | hb11
   ·replace hM:=ifT hM hb11
    refine Ct hb11 ?_
    refine zb1 ?_
    refine zaA ?_
    refine zaL ?_
    exact zal v7 (.k (.k (.k (.k (.k .nil))))) ⟨(hS.keep [] rfl).up (by omega),hM⟩
   ·replace hM:=ifF hM hb11
    refine Cf hb11 ?_
    refine zaD ?_
    refine Ws ?_
    refine Sq ?_
    refine Sq ?_
    have hS0:=hS
    refine zck (n:=13) rfl (by kernel_rfl) ?_
    refine Om (.ep (zbu a0.1 a0.2 m0)) ?_
    refine zlT (by decide) rfl ?_
    refine Of ((zbu a0.1 a0.2 m0)) zjx ?_
    refine Olg (.agg (Wheel.cells a0.1.Wheel)) zc6 ?_
    refine Olg (.agg [.i v2,.i v3,.i v4,.i v5,.i a1.place,.i a1.credit]) zb8 ?_
    refine Om (.i v6) ?_
    obtain ⟨r12,hr12,hM⟩:=zai hM
    refine zaE (bs:=[.agg (Wheel.cells a0.1.Wheel),.agg [.i v2,.i v3,.i v4,.i v5,.i a1.place,.i a1.credit],.i v6,.b false]) (by decide) rfl rfl ((zgb hr12).le (.k (.k (.k (.k .nil))))) ?_
    refine Om (.tup [.agg (Spot_.cells r12.1),.i r12.2]) ?_
    refine Ox (.agg (Spot_.cells r12.1)) ?_
    refine Ox (.i r12.2) ?_
    refine za3 hS (by decide) zcF (by omega) fun H hS=>?_
    refine zaJ (v:=.agg (Spot_.cells r12.1)) (ns:=(Spot_.cells r12.1)) (L':=([(g2+1+2+5+10,.cells (Spot_.cells r12.1))]++Lo v7)) 0 hS rfl rfl (.behind (by kernel_rfl)) rfl rfl zdP nlb rfl fun H hS=>?_
    refine Oa (.i r12.2) ?_
    refine Ni ?_
    refine zaX (L':=([]++Lo v7)) 0 7 hS rfl rfl rfl fun H hS=>?_
    refine Ws ?_
    refine Sq ?_
    refine Rg 7 ?_
    refine Om (f0) ?_
    refine Om (.i v6) ?_
    refine zaW (es:=[[.i v6]]) hS (by decide) zay zbn rfl zbi rfl (by decide) (by omega) fun H hS=>?_
    refine Olg (.agg (Spot_.cells r12.1)) zb8 ?_
    refine Om (.i r12.2) ?_
    obtain ⟨r13,hr13,hM⟩:=zai hM
    replace hS:St (fun i=>i<g/\i∉ids (Lo st)) H0 ([(g2+1+2+5+13+2,.row 3 1)]++Lo v7) _ _:=hS
    refine zkK (bs:=[.sl (.id (g2+1+2+5+13+2)) 1 (([v6]:List Int).map cI),.agg (Spot_.cells r12.1),.i r12.2]) (.inl rfl) hS (by decide) rfl rfl ((hf hr13).le (.cons (.sl _ _ _) (.k (.k .nil)))) (hk _ _).ids (by omega) fun H hS=>?_
    refine zd4 (e:=r13.1) (by decide) rfl ?_
    refine Ni ?_
    replace hS:=hS.keep (L':=([]++Lo r13.2)) [false] rfl
    refine Ws ?_
    rcases bft (!r13.1) with hb14 | hb14
    ·replace hM:=ifT hM hb14
     refine Ct hb14 ?_
     refine zaR ?_
     refine zam ?_
     refine za2 ?_
     refine zcD ?_
     refine zb9 ?_
     refine za2 ?_
     refine zfm (x:=.tup []) (f:=fun r=>.tup []) (fd:=fun r=>(Lo r.2)) (.inr rfl) ?_ (.refl _) (Option.some.inj hM) hS 0 rfl
     exact rfl
    ·replace hM:=ifF hM hb14
     refine Cf hb14 ?_
     refine zaD ?_
     refine Ws ?_
     refine Sq ?_
     refine za1 (J:=Bool) (fun j=>[(0,.ep (zbu a0.1 a0.2 m0)),(2,f0),(4,.ep [.i v2,.i v3,.i v4,.i v5,.i a1.place,.i a1.credit]),(6,.i v6),(17,.i (a0.1.Wheel.Coins.length:Int)),(18,.i v6),(50,.b j)]) (fun j H' g'=>St (fun i=>i<g/\i∉ids (Lo st)) H0 ([]++Lo r13.2) H' g'/\za4 n (zaU n a0 a1 aF m2) a0 a1 aF v2 v3 v4 v5 v6 r13 j=some r) ?_ ?_
     ·rintro v15 H g4 ⟨hS,hM⟩
      change wpA _ _ _ _ (Fr.of [(0,.ep (zbu a0.1 a0.2 m0)),(2,f0),(4,.ep [.i v2,.i v3,.i v4,.i v5,.i a1.place,.i a1.credit]),(6,.i v6),(17,.i (a0.1.Wheel.Coins.length:Int)),(18,.i v6),(50,.b v15)]) _ _
      replace hS:St (fun i=>i<g/\i∉ids (Lo st)) H0 ([]++Lo r13.2) H g4:=hS
      replace hM:za4 n (zaU n a0 a1 aF m2) a0 a1 aF v2 v3 v4 v5 v6 r13 v15=some r:=hM
      rcases bft v15 with hb16 | hb16
      ·replace hM:=ifT hM hb16
       refine Ct hb16 ?_
       refine zb1 ?_
       refine zaA ?_
       refine zaL ?_
       exact zal r13.2 (.k (.k (.k (.k (.k .nil))))) ⟨(hS.keep [] rfl).up (by omega),hM⟩
      ·replace hM:=ifF hM hb16
       refine Cf hb16 ?_
       refine zaD ?_
       refine Ws ?_
       refine Sq ?_
       have hS0:=hS
       refine zck (n:=13) rfl (by kernel_rfl) ?_
       refine Om (.ep (zbu a0.1 a0.2 m0)) ?_
       refine zlT (by decide) rfl ?_
       refine Of ((zbu a0.1 a0.2 m0)) zjx ?_
       refine Olg (.agg (Wheel.cells a0.1.Wheel)) zc6 ?_
       refine Olg (.agg [.i v2,.i v3,.i v4,.i v5,.i a1.place,.i a1.credit]) zb8 ?_
       refine Om (.i v6) ?_
       obtain ⟨r17,hr17,hM⟩:=zai hM
       refine zaE (bs:=[.agg (Wheel.cells a0.1.Wheel),.agg [.i v2,.i v3,.i v4,.i v5,.i a1.place,.i a1.credit],.i v6,.b true]) (by decide) rfl rfl ((zgb hr17).le (.k (.k (.k (.k .nil))))) ?_
       refine Om (.tup [.agg (Spot_.cells r17.1),.i r17.2]) ?_
       refine Ox (.agg (Spot_.cells r17.1)) ?_
       refine Ox (.i r17.2) ?_
       refine za3 hS (by decide) zcF (by omega) fun H hS=>?_
       refine zaJ (v:=.agg (Spot_.cells r17.1)) (ns:=(Spot_.cells r17.1)) (L':=([(g4+10,.cells (Spot_.cells r17.1))]++Lo r13.2)) 0 hS rfl rfl (.behind (by kernel_rfl)) rfl rfl zdP nlb rfl fun H hS=>?_
       refine Oa (.i r17.2) ?_
       refine Ni ?_
       refine zaX (L':=([]++Lo r13.2)) 0 9 hS rfl rfl rfl fun H hS=>?_
       refine Ws ?_
       refine Sq ?_
       refine Rg 7 ?_
       refine Om (f0) ?_
       refine Om (.i v6) ?_
       refine zaW (es:=[[.i (-1)],[.i v6]]) hS (by decide) zay zbn rfl zbi rfl (by decide) (by omega) fun H hS=>?_
       refine Olg (.agg (Spot_.cells r17.1)) zb8 ?_
       refine Om (.i r17.2) ?_
       obtain ⟨r18,hr18,hM⟩:=zai hM
       replace hS:St (fun i=>i<g/\i∉ids (Lo st)) H0 ([(g4+13+2,.row 3 2)]++Lo r13.2) _ _:=hS
       refine zkK (bs:=[.sl (.id (g4+13+2)) 1 (([(-1),v6]:List Int).map cI),.agg (Spot_.cells r17.1),.i r17.2]) (.inl rfl) hS (by decide) rfl rfl ((hf hr18).le (.cons (.sl _ _ _) (.k (.k .nil)))) (hk _ _).ids (by omega) fun H hS=>?_
       refine zd4 (e:=r18.1) (by decide) rfl ?_
       refine Ni ?_
       replace hS:=hS.keep (L':=([]++Lo r18.2)) [false] rfl
       refine Ws ?_
       rcases bft (!r18.1) with hb19 | hb19
       ·replace hM:=ifT hM hb19
        refine Ct hb19 ?_
        refine zaR ?_
        refine za2 ?_
        refine zcD ?_
        refine zb9 ?_
        refine za2 ?_
        refine zfm (x:=.tup []) (f:=fun r=>.tup []) (fd:=fun r=>(Lo r.2)) (.inr rfl) ?_ (.refl _) (Option.some.inj hM) hS 0 rfl
        exact rfl
       ·replace hM:=ifF hM hb19
        refine Cf hb19 ?_
        refine zaD ?_
        refine zat ?_
        exact zal r18.2 (.k (.k (.k (.k (.k .nil))))) ⟨(hS.keep [] rfl).up (by omega),hM⟩
     ·refine Rg 8 ?_
      refine Of ([.i v2,.i v3,.i v4,.i v5,.i a1.place,.i a1.credit]) ze2 ?_
      refine Olp (.i a1.credit) zah zar ?_
      refine Oi (.b (a1.credit==0)) ?_
      refine Om (.b (a1.credit==0)) ?_
      rcases bft (a1.credit==0) with hb20 | hb20
      ·replace hM:=ifT hM hb20
       refine On (want:=false) hb20 ?_
       refine On (want:=false) hb20 ?_
       refine On (want:=false) hb20 ?_
       refine Pt (.b true) hb20 ?_
       refine Ni ?_
       exact zal true (.k (.k (.k (.k (.k (.k (.k .nil))))))) ⟨(hS.keep [] rfl).up (by omega),hM⟩
      ·replace hM:=ifF hM hb20
       refine Oy (want:=false) hb20 ?_
       refine Of ([.i v2,.i v3,.i v4,.i v5,.i a1.place,.i a1.credit]) zhX ?_
       refine Oy (want:=false) hb20 ?_
       refine Olp (.i a1.place) zah zar ?_
       refine Oy (want:=false) hb20 ?_
       refine Oi (.b (a1.place==0)) ?_
       refine Pf (.b (a1.place==0)) hb20 ?_
       refine Ni ?_
       exact zal (a1.place==0) (.k (.k (.k (.k (.k (.k (.k .nil))))))) ⟨(hS.keep [] rfl).up (by omega),hM⟩
 ·replace hM:=ifF hM hb8
  refine Cf hb8 ?_
  refine zb1 ?_
  refine zaA ?_
  refine zaz ?_
  refine zaL ?_
  refine zfm (x:=.tup []) (f:=fun r=>.tup []) (fd:=fun r=>(Lo r.2)) (.inl rfl) ?_ (.refl _) (Option.some.inj hM) hS 0 rfl
  exact rfl
theorem zhl {p1 p2 p3:Nat} (hnd:[p1,p2,p3].Nodup) {rec:(Wheel_×Bool)->Spot_->(List (Spot_×Int))->Option (Int×(List (Spot_×Int)))} (hrec:∀{a0:Wheel_×Bool} {a1:Spot_} {st:List (Spot_×Int)} {r:Int×(List (Spot_×Int))},rec a0 a1 st=some r->zjZ Try.prog 79 [.ep (zbu a0.1 a0.2 p3),.agg (Spot_.cells a1)] [(p3,.obj none (zaf (mpv zan st)))] (.i r.1) [(p3,.obj none (zaf (mpv zan r.2)))]) {a0:List Int} {a1:Spot_} {a2:Int} {a3:Wheel_×Bool} {st:Bool×Int×(List (Spot_×Int))} {r:Bool×(Bool×Int×(List (Spot_×Int)))} (hM:zbX rec a0 a1 a2 a3 st=some r):zjZ Try.prog 109 [.sl .no 1 (a0.map cI),.agg (Spot_.cells a1),.i a2,.ep [.ep (zbu a3.1 a3.2 p3)],.ptr p1 0,.ptr p2 0] [(p1,.cells [.b st.1]),(p2,.cells [.i st.2.1]),(p3,.obj none (zaf (mpv zan st.2.2)))] (.b r.1) [(p1,.cells [.b r.2.1]),(p2,.cells [.i r.2.2.1]),(p3,.obj none (zaf (mpv zan r.2.2.2)))]:=by
 refine zds mixed Try.func109 rfl (by decide) Try.ntmps109 (by simp) (zfO (zfO (zrV zh9))) hnd ?pure ?cells fun H0 g hf_ hp=>?_
 case pure=>exact fun H _=>(show Go.AM.Pure _ from .v _).inH
 case cells=>exact (zjN (zfH (zcm (.inl (.inl (.v _))) ziH) (zfH (zcm (.inl (.inl (.v _))) ziH) (zrW zjM))) zgB)
 rw [zag]
 change wpA _ _ _ _ (Fr.of [(0,.sl .no 1 (a0.map cI)),(1,.agg (Spot_.cells a1)),(2,.i a2),(3,.ep [.ep (zbu a3.1 a3.2 p3)]),(4,.ptr p1 0),(5,.ptr p2 0)]) H0 g
 have hS:=St.startH (L:=[(p1,.cells [.b st.1]),(p2,.cells [.i st.2.1]),(p3,.obj none (zaf (mpv zan st.2.2)))]) hf_ hnd hp
 replace hS:St (fun i=>i<g/\i∉ids [(p1,.cells [.b st.1]),(p2,.cells [.i st.2.1]),(p3,.obj none (zaf (mpv zan st.2.2)))]) H0 [(p1,.cells [.b st.1]),(p2,.cells [.i st.2.1]),(p3,.obj none (zaf (mpv zan st.2.2)))] H0 g:=hS
 refine Sq ?_
 refine Rg 2 ?_
 refine zb4 (v:=.agg (Spot_.cells a1)) (cs:=(Spot_.cells a1)) hS (by decide) rfl rfl (by omega) fun H hS=>?_
 refine Oa (.b false) ?_
 refine Ni ?_
 refine zaX (L':=[(p1,.cells [.b st.1]),(p2,.cells [.i st.2.1]),(p3,.obj none (zaf (mpv zan st.2.2)))]) 0 7 hS rfl rfl rfl fun H hS=>?_
 refine Ws ?_
 refine za1 (J:=Bool×Int×(List (Spot_×Int))) (fun j=>[]) (fun j H' g'=>St (fun i=>i<g/\i∉ids [(p1,.cells [.b st.1]),(p2,.cells [.i st.2.1]),(p3,.obj none (zaf (mpv zan st.2.2)))]) H0 [(p1,.cells [.b j.1]),(p2,.cells [.i j.2.1]),(p3,.obj none (zaf (mpv zan j.2.2)))] H' g'/\zbS j.1 j.2.1 j.2.2=some r) ?_ ?_
 ·rintro ⟨v1,v2,v3⟩ H g1 ⟨hS,hM⟩
  change wpA _ _ _ _ (Fr.of []) _ _
  replace hS:St (fun i=>i<g/\i∉ids [(p1,.cells [.b st.1]),(p2,.cells [.i st.2.1]),(p3,.obj none (zaf (mpv zan st.2.2)))]) H0 [(p1,.cells [.b v1]),(p2,.cells [.i v2]),(p3,.obj none (zaf (mpv zan v3)))] H g1:=hS
  replace hM:zbS v1 v2 v3=some r:=hM
  refine Sq ?_
  refine Rg 1 ?_
  refine Oa (.b true) ?_
  refine Ni ?_
  refine Ws ?_
  refine zaR ?_
  refine zfm (x:=.b true) (f:=fun r=>.b r.1) (fd:=fun r=>[(p1,.cells [.b r.2.1]),(p2,.cells [.i r.2.2.1]),(p3,.obj none (zaf (mpv zan r.2.2.2)))]) (.inr rfl) ?_ (.refl _) (Option.some.inj hM) hS 0 rfl
  exact (zax (zae (x:=.b true) rfl))
 ·refine Sq ?_
  refine Rg 6 ?_
  refine Om (.i a2) ?_
  refine Olp (.ep (zbu a3.1 a3.2 p3)) zhE ziW ?_
  refine Olg (.agg (Spot_.cells a1)) zb8 ?_
  obtain ⟨r4,hr4,hM⟩:=zai hM
  have hndr4:=hS.nd_at (ns:=[2]) (M:=[(p3,.obj none (zaf (mpv zan st.2.2)))]) (M':=[(p3,.obj none (zaf (mpv zan r4.2)))]) (.cons rfl .nil) (by decide)
  refine zkJ (bs:=[.ep (zbu a3.1 a3.2 p3),.agg (Spot_.cells a1)]) (M:=[(p3,.obj none (zaf (mpv zan st.2.2)))]) (M':=[(p3,.obj none (zaf (mpv zan r4.2)))]) (L':=[(p1,.cells [.b st.1]),(p2,.cells [.i st.2.1]),(p3,.obj none (zaf (mpv zan r4.2)))]) [2] (.inl rfl) hS (by decide) rfl rfl ((hrec hr4).le (.k (.k .nil))) (.cons rfl .nil) rfl (by omega) fun H hS=>?_
  refine Oi (.i (w64 (a2+r4.1))) ?_
  refine Oa (.i (w64 (a2+r4.1))) ?_
  refine Ni ?_
  refine Ws ?_
  refine za1 (J:=Bool) (fun j=>[(4,.ptr p1 0),(5,.ptr p2 0),(10,.i (w64 (a2+r4.1))),(25,.b j)]) (fun j H' g'=>St (fun i=>i<g/\i∉ids [(p1,.cells [.b st.1]),(p2,.cells [.i st.2.1]),(p3,.obj none (zaf (mpv zan st.2.2)))]) H0 [(p1,.cells [.b st.1]),(p2,.cells [.i st.2.1]),(p3,.obj none (zaf (mpv zan r4.2)))] H' g'/\zbT a2 st r4 j=some r) ?_ ?_
  ·rintro v5 H g2 ⟨hS,hM⟩
   change wpA _ _ _ _ (Fr.of [(4,.ptr p1 0),(5,.ptr p2 0),(10,.i (w64 (a2+r4.1))),(25,.b v5)]) _ _
   replace hS:St (fun i=>i<g/\i∉ids [(p1,.cells [.b st.1]),(p2,.cells [.i st.2.1]),(p3,.obj none (zaf (mpv zan st.2.2)))]) H0 [(p1,.cells [.b st.1]),(p2,.cells [.i st.2.1]),(p3,.obj none (zaf (mpv zan r4.2)))] H g2:=hS
   replace hM:zbT a2 st r4 v5=some r:=hM
   rcases bft v5 with hb6 | hb6
   ·replace hM:=ifT hM hb6
    refine Ct hb6 ?_
    refine Rg 3 ?_
    refine Om (.i (w64 (a2+r4.1))) ?_
    refine zaJ (v:=.i (w64 (a2+r4.1))) (ns:=[.i (w64 (a2+r4.1))]) (L':=[(p1,.cells [.b st.1]),(p2,.cells [.i (w64 (a2+r4.1))]),(p3,.obj none (zaf (mpv zan r4.2)))]) 1 hS rfl rfl .no rfl rfl zen nlb rfl fun H hS=>?_
    refine zaJ (v:=.b false) (ns:=[.b false]) (L':=[(p1,.cells [.b false]),(p2,.cells [.i (w64 (a2+r4.1))]),(p3,.obj none (zaf (mpv zan r4.2)))]) 0 hS rfl rfl .no rfl rfl zr5 nlb rfl fun H hS=>?_
    refine Ni ?_
    exact zal (false,w64 (a2+r4.1),r4.2) .nil ⟨(hS.keep [true,true,true] rfl).up (by omega),hM⟩
   ·replace hM:=ifF hM hb6
    refine Cf hb6 ?_
    refine zaD ?_
    exact zal (st.1,st.2.1,r4.2) .nil ⟨(hS.keep [true,true,true] rfl).up (by omega),hM⟩
  ·have hS0:=hS
   refine zck (n:=10) rfl (by kernel_rfl) ?_
   refine zaV (v:=.b st.1) 0 hS (by decide) rfl rfl (.st hS0 0 rfl (by omega)) (po zuO zwl) ?_
   refine Om (.b st.1) ?_
   rcases bft st.1 with hb7 | hb7
   ·replace hM:=ifT hM hb7
    refine On (want:=false) hb7 ?_
    refine On (want:=false) hb7 ?_
    refine On (want:=false) hb7 ?_
    refine On (want:=false) hb7 ?_
    refine On (want:=false) hb7 ?_
    refine On (want:=false) hb7 ?_
    refine On (want:=false) hb7 ?_
    refine Pt (.b true) hb7 ?_
    refine Ni ?_
    exact zal true (.k (.k (.k (.k .nil)))) ⟨(hS.keep [true,true,true] rfl).up (by omega),hM⟩
   ·replace hM:=ifF hM hb7
    refine Oy (want:=false) hb7 ?_
    refine Olp (.ep (zbu a3.1 a3.2 p3)) zhE ziW ?_
    refine Oy (want:=false) hb7 ?_
    refine zlT (by decide) rfl ?_
    refine Oy (want:=false) hb7 ?_
    refine Of ((zbu a3.1 a3.2 p3)) zqJ ?_
    refine Oy (want:=false) hb7 ?_
    refine Olp (fnB a3.2) zsd ztC ?_
    refine Oy (want:=false) hb7 ?_
    refine Om (.i (w64 (a2+r4.1))) ?_
    refine Oy (want:=false) hb7 ?_
    refine zaV (v:=.i st.2.1) 1 hS (by decide) rfl rfl (.st hS0 1 rfl (by omega)) (po zah zar) ?_
    refine Oy (want:=false) hb7 ?_
    obtain ⟨r8,hr8,hM⟩:=zai hM
    refine zaE (bs:=[.i (w64 (a2+r4.1)),.i st.2.1]) (by decide) rfl rfl ((zlA hr8).le (.k (.k .nil))) ?_
    refine Pf (.b r8) hb7 ?_
    refine Ni ?_
    exact zal r8 (.k (.k (.k (.k .nil)))) ⟨(hS.keep [true,true,true] rfl).up (by omega),hM⟩
end Go.Proofs.Ytenogpmlhpcibaa
