/-
  The code returns what the functions say (printed by gen.py).
  Conditions: none.
-/
import Derived.Test.YtenogpmlhpcibaaWkTakingsLeast3
import Derived.Test.YtenogpmlhpcibaaAmOx
import Derived.Test.YtenogpmlhpcibaaSh
import Derived.Test.YtenogpmlhpcibaaKs
import Derived.Test.YtenogpmlhpcibaaEn
set_option linter.all false
namespace Go.Proofs.Ytenogpmlhpcibaa
open Go Go.AM Go.Law
set_option linter.unusedVariables false
set_option maxRecDepth 4000
set_option maxHeartbeats 4000000
theorem zhS {n:Nat} {a0:Box} {a1:List Int} {r:Bool} (hM:zdB n a0 a1=some r):zaF Try.prog 6 [.agg (Box.cells a0),.sl .no 1 (a1.map cI)] (.b r):=by
 refine zak mixed Try.func6 rfl (by decide) Try.ntmps6 (by simp) ?pure fun H0 g hf=>?_
 case pure=>exact .v _
 rw [zag]
 change wpA _ _ _ _ (Fr.of [(0,.agg (Box.cells a0)),(1,.sl .no 1 (a1.map cI))]) H0 g
 have hS:=St.start hf
 refine Sq ?_
 refine Rg 2 ?_
 refine zcC (v:=.agg (Box.cells a0)) (cs:=(Box.cells a0)) hS (by decide) rfl rfl (by omega) fun H hS=>?_
 refine Oa (.b false) ?_
 refine Ni ?_
 refine zbk (L':=[]) 0 2 hS rfl rfl rfl fun H hS=>?_
 refine Ws ?_
 refine Sq ?_
 refine zaS (J:=Bool) (fun j=>[(1,.sl .no 1 (a1.map cI)),(2,.ep (Box.cells a0)),(26,.b j)]) (fun j H' g'=>St (·<g) H0 [] H' g'/\za3 n a0 a1 j=some r) ?_ ?_
 ·rintro v1 H g1 ⟨hS,hM⟩
  change wpA _ _ _ _ (Fr.of [(1,.sl .no 1 (a1.map cI)),(2,.ep (Box.cells a0)),(26,.b v1)]) _ _
  replace hS:St (·<g) H0 [] H g1:=hS
  replace hM:za3 n a0 a1 v1=some r:=hM
  rcases bft v1 with hb2 | hb2
  ·replace hM:=ifT hM hb2
   refine Ct hb2 ?_
   refine Sq ?_
   refine Rg 2 ?_
   obtain ⟨r3,hr3,hM⟩:=zaj hM
   refine zau (bs:=[]) (by decide) rfl rfl ((zg2 hr3).le .nil) ?_
   refine Oa (.b r3) ?_
   refine Ni ?_
   refine Ws ?_
   refine zaQ ?_
   refine zan ?_
   refine zaU (x:=.b r3) (f:=fun r=>.b r) (.inr rfl) ?_ (.refl _) (Option.some.inj hM) hS
   exact (zas (zae (x:=.b r3) rfl))
  ·replace hM:=ifF hM hb2
   refine Cf hb2 ?_
   refine zaz ?_
   refine Ws ?_
   refine Sq ?_
   refine Rg 7 ?_
   refine Olg (.agg (Box.cells a0)) zba ?_
   obtain ⟨r4,hr4,hM⟩:=zaj hM
   refine zau (bs:=[.agg (Box.cells a0)]) (by decide) rfl rfl ((ziS hr4).le (.k .nil)) ?_
   refine Om (.tup [.sl .no 1 (r4.1.map cI),.i r4.2]) ?_
   refine Ox (.sl .no 1 (r4.1.map cI)) ?_
   refine Ox (.i r4.2) ?_
   refine Oa (.sl .no 1 (r4.1.map cI)) ?_
   refine Oa (.i r4.2) ?_
   refine Ni ?_
   refine Ws ?_
   refine Sq ?_
   refine Rg 7 ?_
   refine Olg (.agg (Box.cells a0)) zba ?_
   obtain ⟨r5,hr5,hM⟩:=zaj hM
   refine zau (bs:=[.agg (Box.cells a0)]) (by decide) rfl rfl ((zgI hr5).le (.k .nil)) ?_
   refine Om (.tup [.i r5.1,.i r5.2]) ?_
   refine Ox (.i r5.1) ?_
   refine Ox (.i r5.2) ?_
   refine Oa (.i r5.1) ?_
   refine Oa (.i r5.2) ?_
   refine Ni ?_
   refine Ws ?_
   refine Sq ?_
   refine Rg 9 ?_
   refine Olg (.agg (Box.cells a0)) zba ?_
   obtain ⟨r6,hr6,hM⟩:=zaj hM
   refine zau (bs:=[.agg (Box.cells a0)]) (by decide) rfl rfl ((zjg hr6).le (.k .nil)) ?_
   refine Om (.tup [.sl .no 1 (r6.1.map cI),.sl .no 1 (r6.2.1.map cI),.i r6.2.2]) ?_
   refine Ox (.sl .no 1 (r6.1.map cI)) ?_
   refine Ox (.sl .no 1 (r6.2.1.map cI)) ?_
   refine Ox (.i r6.2.2) ?_
   refine Oa (.sl .no 1 (r6.1.map cI)) ?_
   refine Oa (.sl .no 1 (r6.2.1.map cI)) ?_
   refine Oa (.i r6.2.2) ?_
   refine Ni ?_
   refine Ws ?_
   refine Sq ?_
   refine zaS (J:=Bool) (fun j=>[(1,.sl .no 1 (a1.map cI)),(2,.ep (Box.cells a0)),(5,.sl .no 1 (r4.1.map cI)),(7,.i r5.1),(8,.i r5.2),(9,.sl .no 1 (r6.1.map cI)),(10,.sl .no 1 (r6.2.1.map cI)),(60,.b j)]) (fun j H' g'=>St (·<g) H0 [] H' g'/\zbj n a0 a1 r4 r5 r6 j=some r) ?_ ?_
   ·rintro v7 H g2 ⟨hS,hM⟩
    change wpA _ _ _ _ (Fr.of [(1,.sl .no 1 (a1.map cI)),(2,.ep (Box.cells a0)),(5,.sl .no 1 (r4.1.map cI)),(7,.i r5.1),(8,.i r5.2),(9,.sl .no 1 (r6.1.map cI)),(10,.sl .no 1 (r6.2.1.map cI)),(60,.b v7)]) _ _
    replace hS:St (·<g) H0 [] H g2:=hS
    replace hM:zbj n a0 a1 r4 r5 r6 v7=some r:=hM
    rcases bft v7 with hb8 | hb8
    ·replace hM:=ifT hM hb8
     refine Ct hb8 ?_
     refine Sq ?_
     refine Rg 1 ?_
     refine Oa (.b false) ?_
     refine Ni ?_
     refine Ws ?_
     refine zaQ ?_
     refine zan ?_
     refine zaU (x:=.b false) (f:=fun r=>.b r) (.inr rfl) ?_ (.refl _) (Option.some.inj hM) hS
     exact (zas (zae (x:=.b false) rfl))
    ·replace hM:=ifF hM hb8
     refine Cf hb8 ?_
     refine zaz ?_
     refine Ws ?_
     refine Sq ?_
     refine Rg 1 ?_
     refine Oa (.b false) ?_
     refine Ni ?_
     refine Ws ?_
     refine zaS (J:=Bool) (fun j=>[(1,.sl .no 1 (a1.map cI)),(2,.ep (Box.cells a0)),(7,.i r5.1),(8,.i r5.2),(9,.sl .no 1 (r6.1.map cI)),(10,.sl .no 1 (r6.2.1.map cI)),(12,.b j)]) (fun j H' g'=>St (·<g) H0 [] H' g'/\zcg n a0 a1 r5 r6 j=some r) ?_ ?_
     ·rintro v9 H g3 ⟨hS,hM⟩
      change wpA _ _ _ _ (Fr.of [(1,.sl .no 1 (a1.map cI)),(2,.ep (Box.cells a0)),(7,.i r5.1),(8,.i r5.2),(9,.sl .no 1 (r6.1.map cI)),(10,.sl .no 1 (r6.2.1.map cI)),(12,.b v9)]) _ _
      replace hS:St (·<g) H0 [] H g3:=hS
      replace hM:zcg n a0 a1 r5 r6 v9=some r:=hM
      refine Sq ?_
      refine zaS (J:=Bool) (fun j=>[(1,.sl .no 1 (a1.map cI)),(2,.ep (Box.cells a0)),(7,.i r5.1),(8,.i r5.2),(9,.sl .no 1 (r6.1.map cI)),(10,.sl .no 1 (r6.2.1.map cI)),(83,.b j)]) (fun j H' g'=>St (·<g) H0 [] H' g'/\zbi n a0 a1 r5 r6 j=some r) ?_ ?_
      ·rintro v10 H g4 ⟨hS,hM⟩
       change wpA _ _ _ _ (Fr.of [(1,.sl .no 1 (a1.map cI)),(2,.ep (Box.cells a0)),(7,.i r5.1),(8,.i r5.2),(9,.sl .no 1 (r6.1.map cI)),(10,.sl .no 1 (r6.2.1.map cI)),(83,.b v10)]) _ _
       replace hS:St (·<g) H0 [] H g4:=hS
       replace hM:zbi n a0 a1 r5 r6 v10=some r:=hM
       rcases bft v10 with hb11 | hb11
       ·replace hM:=ifT hM hb11
        refine Ct hb11 ?_
        refine Sq ?_
        refine Rg 1 ?_
        refine Oa (.b false) ?_
        refine Ni ?_
        refine Ws ?_
        refine zaQ ?_
        refine zan ?_
        refine zaU (x:=.b false) (f:=fun r=>.b r) (.inr rfl) ?_ (.refl _) (Option.some.inj hM) hS
        exact (zas (zae (x:=.b false) rfl))
       ·replace hM:=ifF hM hb11
        refine Cf hb11 ?_
        refine zaz ?_
        refine Ws ?_
        refine Sq ?_
        refine zaS (J:=Bool) (fun j=>[(1,.sl .no 1 (a1.map cI)),(2,.ep (Box.cells a0)),(7,.i r5.1),(8,.i r5.2),(100,.b j)]) (fun j H' g'=>St (·<g) H0 [] H' g'/\zbh n a0 a1 r5 j=some r) ?_ ?_
        ·rintro v12 H g5 ⟨hS,hM⟩
         change wpA _ _ _ _ (Fr.of [(1,.sl .no 1 (a1.map cI)),(2,.ep (Box.cells a0)),(7,.i r5.1),(8,.i r5.2),(100,.b v12)]) _ _
         replace hS:St (·<g) H0 [] H g5:=hS
         replace hM:zbh n a0 a1 r5 v12=some r:=hM
         rcases bft v12 with hb13 | hb13
         ·replace hM:=ifT hM hb13
          refine Ct hb13 ?_
          refine Sq ?_
          refine Rg 1 ?_
          refine Oa (.b false) ?_
          refine Ni ?_
          refine Ws ?_
          refine zaQ ?_
          refine zan ?_
          refine zaU (x:=.b false) (f:=fun r=>.b r) (.inr rfl) ?_ (.refl _) (Option.some.inj hM) hS
          exact (zas (zae (x:=.b false) rfl))
         ·replace hM:=ifF hM hb13
          refine Cf hb13 ?_
          refine zaz ?_
          refine Ws ?_
          refine Sq ?_
          have hS0:=hS
          refine zcD (n:=8) rfl (by kernel_rfl) ?_
          refine Of ((Box.cells a0)) zbK ?_
          refine Olg (.agg (Wheel.cells a0.Wheel)) zb0 ?_
          refine Om (.sl .no 1 (a1.map cI)) ?_
          obtain ⟨r14,hr14,hM⟩:=zaj hM
          refine zvo (mk:=(fun s=>s)) (k:=1) (e:=3) (es:=(r14.map cI)) (bs:=[.agg (Wheel.cells a0.Wheel),.sl .no 1 (a1.map cI)]) hS (by decide) rfl rfl ((zq8.of_fresh (zm4 hr14)).le (.k (.k .nil))) zzM (zac (.agg _ (zac (.v _) (zac (.sl _ _ (zaE (fun x=>(zac (.v _) zaK)))) (zac (.sl _ _ (zaE (fun x=>(zac (.v _) zaK)))) zaK)))) (zac (.sl _ _ (zaE (fun x=>(zac (.v _) zaK)))) zaK)) (zrb (fun x=>(zra ztf))) (List.length_map _) (by omega) fun H hS=>?_
          refine Olg (.agg (Box.cells a0)) zba ?_
          obtain ⟨r15,hr15,hM⟩:=zaj hM
          refine zau (bs:=[.agg (Box.cells a0)]) (by decide) rfl rfl ((zia hr15).le (.k .nil)) ?_
          refine Oa (msn (g5+3) 1 r14.length) ?_
          refine Oa (.sl .no 1 (r15.map cI)) ?_
          refine Ni ?_
          refine Ws ?_
          refine ztP (J:=(List Int)) (fun j=>[(1,.sl .no 1 (a1.map cI)),(2,.ep (Box.cells a0)),(7,.i r5.1),(8,.i r5.2),(14,.sl .no 1 (j.map cI))]) (fun j H' g'=>St (·<g) H0 [] H' g'/\zcf n a0 a1 r5 j=some r) ?_ ?_
          ·rintro v16 H g6 ⟨hS,hM⟩
           change wpA _ _ _ _ (Fr.of [(1,.sl .no 1 (a1.map cI)),(2,.ep (Box.cells a0)),(7,.i r5.1),(8,.i r5.2),(14,.sl .no 1 (v16.map cI))]) _ _
           replace hS:St (·<g) H0 [] H g6:=hS
           replace hM:zcf n a0 a1 r5 v16=some r:=hM
           refine Sq ?_
           refine zaS (J:=Bool) (fun j=>[(2,.ep (Box.cells a0)),(7,.i r5.1),(8,.i r5.2),(14,.sl .no 1 (v16.map cI)),(135,.b j)]) (fun j H' g'=>St (·<g) H0 [] H' g'/\za2 n a0 r5 v16 j=some r) ?_ ?_
           ·rintro v17 H g7 ⟨hS,hM⟩
            change wpA _ _ _ _ (Fr.of [(2,.ep (Box.cells a0)),(7,.i r5.1),(8,.i r5.2),(14,.sl .no 1 (v16.map cI)),(135,.b v17)]) _ _
            replace hS:St (·<g) H0 [] H g7:=hS
            replace hM:za2 n a0 r5 v16 v17=some r:=hM
            rcases bft v17 with hb18 | hb18
            ·replace hM:=ifT hM hb18
             refine Ct hb18 ?_
             refine Sq ?_
             refine Rg 2 ?_
             obtain ⟨r19,hr19,hM⟩:=zaj hM
             refine zau (bs:=[]) (by decide) rfl rfl ((zg2 hr19).le .nil) ?_
             refine Oa (.b r19) ?_
             refine Ni ?_
             refine Ws ?_
             refine zaQ ?_
             refine zan ?_
             refine zaU (x:=.b r19) (f:=fun r=>.b r) (.inr rfl) ?_ (.refl _) (Option.some.inj hM) hS
             exact (zas (zae (x:=.b r19) rfl))
            ·replace hM:=ifF hM hb18
             refine Cf hb18 ?_
             refine zaz ?_
             refine Ws ?_
             refine zaS (J:=Bool) (fun j=>[(4,.b j)]) (fun j H' g'=>St (·<g) H0 [] H' g'/\zce j=some r) ?_ ?_
             ·rintro v20 H g8 ⟨hS,hM⟩
              change wpA _ _ _ _ (Fr.of [(4,.b v20)]) _ _
              replace hS:St (·<g) H0 [] H g8:=hS
              replace hM:zce v20=some r:=hM
              refine zaQ ?_
              refine zaU (x:=.b v20) (f:=fun r=>.b r) (.inr rfl) ?_ (.refl _) (Option.some.inj hM) hS
              exact (zas (zae (x:=.b v20) rfl))
             ·refine Rg 14 ?_
              refine Om (.i r5.2) ?_
              refine Oi (.b (r5.2==0)) ?_
              refine Om (.b (r5.2==0)) ?_
              rcases bft (r5.2==0) with hb21 | hb21
              ·replace hM:=ifT hM hb21
               refine Oy (want:=true) hb21 ?_
               refine Om (.i r5.1) ?_
               refine Oy (want:=true) hb21 ?_
               refine Of ((Box.cells a0)) zbK ?_
               refine Oy (want:=true) hb21 ?_
               refine Olg (.agg (Wheel.cells a0.Wheel)) zb0 ?_
               refine Oy (want:=true) hb21 ?_
               refine Om (.sl .no 1 (v16.map cI)) ?_
               refine Oy (want:=true) hb21 ?_
               obtain ⟨r22,hr22,hM⟩:=zaj hM
               refine zau (bs:=[.agg (Wheel.cells a0.Wheel),.sl .no 1 (v16.map cI)]) (by decide) rfl rfl ((zgh hr22).le (.k (.k .nil))) ?_
               refine Oy (want:=true) hb21 ?_
               refine Oi (.b (decide (r5.1<=r22))) ?_
               refine Pt (.b (decide (r5.1<=r22))) hb21 ?_
               refine Om (.b (decide (r5.1<=r22))) ?_
               rcases bft (decide (r5.1<=r22)) with hb23 | hb23
               ·replace hM:=ifT hM hb23
                refine Oy (want:=true) hb23 ?_
                obtain ⟨r24,hr24,hM⟩:=zaj hM
                refine zau (bs:=[]) (by decide) rfl rfl ((zg2 hr24).le .nil) ?_
                refine Pt (.b r24) hb23 ?_
                refine Oa (.b r24) ?_
                refine Ni ?_
                exact zah r24 (.k .nil) ⟨(hS.keep [] rfl).up (by omega),hM⟩
               ·replace hM:=ifF hM hb23
                refine On (want:=true) hb23 ?_
                refine Pf (.b false) hb23 ?_
                refine Oa (.b false) ?_
                refine Ni ?_
                exact zah false (.k .nil) ⟨(hS.keep [] rfl).up (by omega),hM⟩
              ·replace hM:=ifF hM hb21
               refine On (want:=true) hb21 ?_
               refine On (want:=true) hb21 ?_
               refine On (want:=true) hb21 ?_
               refine On (want:=true) hb21 ?_
               refine On (want:=true) hb21 ?_
               refine On (want:=true) hb21 ?_
               refine Pf (.b false) hb21 ?_
               refine Om (.b false) ?_
               refine Og ?_
               refine zbp (v:=.b false) (e:=false) (by decide) rfl rfl rfl ?_
               refine Oa (.b false) ?_
               refine Ni ?_
               exact zah false (.k .nil) ⟨(hS.keep [] rfl).up (by omega),hM⟩
           ·have hS0:=hS
            refine zcD (n:=13) rfl (by kernel_rfl) ?_
            refine Olg (.agg (Box.cells a0)) zba ?_
            refine Om (.sl .no 1 (v16.map cI)) ?_
            obtain ⟨r25,hr25,hM⟩:=zaj hM
            refine zau (bs:=[.agg (Box.cells a0),.sl .no 1 (v16.map cI)]) (by decide) rfl rfl ((zgJ hr25).le (.k (.k .nil))) ?_
            refine zdD (e:=r25) (by decide) rfl ?_
            refine Om (.b (!r25)) ?_
            rcases bft (!r25) with hb26 | hb26
            ·replace hM:=ifT hM hb26
             refine On (want:=false) hb26 ?_
             refine On (want:=false) hb26 ?_
             refine On (want:=false) hb26 ?_
             refine On (want:=false) hb26 ?_
             refine On (want:=false) hb26 ?_
             refine On (want:=false) hb26 ?_
             refine On (want:=false) hb26 ?_
             refine Pt (.b true) hb26 ?_
             refine Ni ?_
             exact zah true (.k (.k (.k (.k (.k .nil))))) ⟨(hS.keep [] rfl).up (by omega),hM⟩
            ·replace hM:=ifF hM hb26
             refine Oy (want:=false) hb26 ?_
             refine Olg (.agg (Box.cells a0)) zba ?_
             refine Oy (want:=false) hb26 ?_
             refine Of ((Box.cells a0)) zbK ?_
             refine Oy (want:=false) hb26 ?_
             refine Olg (.agg (Wheel.cells a0.Wheel)) zb0 ?_
             refine Oy (want:=false) hb26 ?_
             refine Om (.sl .no 1 (a1.map cI)) ?_
             refine Oy (want:=false) hb26 ?_
             obtain ⟨r27,hr27,hM⟩:=zaj hM
             refine zau (bs:=[.agg (Wheel.cells a0.Wheel),.sl .no 1 (a1.map cI)]) (by decide) rfl rfl ((zjx hr27).le (.k (.k .nil))) ?_
             refine Oy (want:=false) hb26 ?_
             obtain ⟨r28,hr28,hM⟩:=zaj hM
             refine zau (bs:=[.agg (Box.cells a0),.i r27]) (by decide) rfl rfl ((zf1 hr28).le (.k (.k .nil))) ?_
             refine Oy (want:=false) hb26 ?_
             refine zdD (e:=r28) (by decide) rfl ?_
             refine Pf (.b (!r28)) hb26 ?_
             refine Ni ?_
             exact zah (!r28) (.k (.k (.k (.k (.k .nil))))) ⟨(hS.keep [] rfl).up (by omega),hM⟩
          ·refine Sq ?_
           refine Rg 1 ?_
           refine Oa (.i 0) ?_
           refine Ni ?_
           refine Ws ?_
           refine zay ?_
           refine zbU (V:=Int×(List Int)) (fun v=>[(1,.sl .no 1 (a1.map cI)),(2,.ep (Box.cells a0)),(7,.i r5.1),(8,.i r5.2),(14,msn (g5+3) 1 r14.length),(15,.sl .no 1 (r15.map cI)),(16,.i v.1)]) (fun v m10 H' g'=>St (·<g) H0 ([]++ze0 (g5+3) r14.length (v.2.map cI)) H' g'/\zbg n a0 a1 r5 r15 m10 v.1 v.2=some r) (n:=n) (0,r14) (.k (.k (.k (.k (.k (.k (.k .nil))))))) ⟨(hS.keep [] rfl).up (by omega),hM⟩ ?_
           rintro ⟨v30,v31⟩ m10 H g10 ⟨hS,hM⟩
           obtain _ | m10:=m10
           ·exact nomatch (show none=some _ from hM)
           change wpA _ _ _ _ (Fr.of [(1,.sl .no 1 (a1.map cI)),(2,.ep (Box.cells a0)),(7,.i r5.1),(8,.i r5.2),(14,msn (g5+3) 1 r14.length),(15,.sl .no 1 (r15.map cI)),(16,.i v30)]) _ _
           replace hS:St (·<g) H0 ([]++ze0 (g5+3) r14.length (v31.map cI)) H g10:=hS
           replace hM:zcu n a0 a1 r5 r15 (zbg n a0 a1 r5 r15 m10) v30 v31=some r:=hM
           refine Sq ?_
           refine Sq ?_
           refine Rg 4 ?_
           refine Om (.i v30) ?_
           refine Om (.sl .no 1 (r15.map cI)) ?_
           refine zbu (n:=r15.length) (by decide) rfl (List.length_map _) zax ?_
           refine Oi (.b (decide (v30<(r15.length:Int)))) ?_
           refine Ni ?_
           refine Ws ?_
           rcases bft (decide (v30<(r15.length:Int))) with hb32 | hb32
           ·replace hM:=ifT hM hb32
            refine Ct hb32 ?_
            refine zaz ?_
            refine Ws ?_
            refine Sq ?_
            refine zay ?_
            have hS0:=hS
            refine zcD (n:=11) rfl (by kernel_rfl) ?_
            refine Om (msn (g5+3) 1 r14.length) ?_
            refine Om (.i v30) ?_
            obtain ⟨x33,hx33,hM⟩:=zaj hM
            refine zhJ (xs:=v31) (f:=cI) (z:=v30) (u:=x33) hS (by decide) rfl rfl zaG hx33 ?_
            refine znW (xs:=v31) (z:=v30) (u:=x33) hS (by decide) rfl hx33 (.tl hS0 hx33 (by omega)) zaf zav ?_
            refine Om (.sl .no 1 (r15.map cI)) ?_
            refine Om (.i v30) ?_
            obtain ⟨x34,hx34,hM⟩:=zaj hM
            refine zaW (xs:=r15) (f:=cI) (z:=v30) (u:=x34) (by decide) rfl rfl zaG hx34 ?_
            refine Olp (.i x34) zaf zav ?_
            refine Oi (.i (w64 (x33-x34))) ?_
            obtain ⟨x35,hx35,hM⟩:=zaj hM
            refine zhJ (xs:=v31) (f:=cI) (z:=v30) (u:=x35) hS (by decide) rfl rfl zaG hx35 ?_
            refine zl0 (xs:=v31) (z:=v30) (u:=x35) (v:=(w64 (x33-x34))) hS rfl hx35 (.tl hS0 hx35 (by omega)) rfl zh7 fun H hS=>?_
            refine Ni ?_
            refine zal ?_
            refine Ws ?_
            refine Rg 3 ?_
            refine Om (.i v30) ?_
            refine Oi (.i (w64 (v30+1))) ?_
            refine Oa (.i (w64 (v30+1))) ?_
            refine Ni ?_
            exact za6 (w64 (v30+1),(v31.set (Int.toNat v30) (w64 (x33-x34)))) (Nat.lt_succ_self _) (.k (.k (.k (.k (.k (.k (.k .nil))))))) ⟨(hS.keep [] rfl).up (by omega),hM⟩
           ·replace hM:=ifF hM hb32
            refine Cf hb32 ?_
            refine zbM ?_
            refine zat ?_
            refine zap ?_
            refine zaD ?_
            exact ztQ Try.prog (t:=14) hS rfl (by decide) (zsw (fun _=>rfl)) (zrb (fun x=>(zra ztf))) v31 (.k (.k (.k (.k (.k .nil))))) (fun H hS=>⟨(hS.keep [] rfl).up (by omega),hM⟩)
        ·refine Rg 17 ?_
         refine Om (.i r5.2) ?_
         refine Oi (.b (r5.2==0)) ?_
         refine Om (.b (r5.2==0)) ?_
         rcases bft (r5.2==0) with hb36 | hb36
         ·replace hM:=ifT hM hb36
          refine Oy (want:=true) hb36 ?_
          refine Olg (.agg (Box.cells a0)) zba ?_
          refine Oy (want:=true) hb36 ?_
          refine Om (.sl .no 1 (r6.1.map cI)) ?_
          refine Oy (want:=true) hb36 ?_
          refine Om (.sl .no 1 (r6.2.1.map cI)) ?_
          refine Oy (want:=true) hb36 ?_
          obtain ⟨r37,hr37,hM⟩:=zaj hM
          refine zau (bs:=[.agg (Box.cells a0),.sl .no 1 (r6.1.map cI),.sl .no 1 (r6.2.1.map cI)]) (by decide) rfl rfl ((zic hr37).le (.k (.k (.k .nil)))) ?_
          refine Oy (want:=true) hb36 ?_
          refine zdD (e:=r37) (by decide) rfl ?_
          refine Oy (want:=true) hb36 ?_
          refine Om (.b (!r37)) ?_
          rcases bft (!r37) with hb38 | hb38
          ·replace hM:=ifT hM hb38
           refine On (want:=false) hb38 ?_
           refine On (want:=false) hb38 ?_
           refine On (want:=false) hb38 ?_
           refine On (want:=false) hb38 ?_
           refine On (want:=false) hb38 ?_
           refine On (want:=false) hb38 ?_
           refine Oy (want:=true) hb36 ?_
           refine Pt (.b true) hb38 ?_
           refine Pt (.b true) hb36 ?_
           refine Ni ?_
           exact zah true (.k (.k (.k (.k (.k .nil))))) ⟨(hS.keep [] rfl).up (by omega),hM⟩
          ·replace hM:=ifF hM hb38
           refine Oy (want:=false) hb38 ?_
           refine Of ((Box.cells a0)) zbK ?_
           refine Oy (want:=false) hb38 ?_
           refine Olg (.agg (Wheel.cells a0.Wheel)) zb0 ?_
           refine Oy (want:=false) hb38 ?_
           refine Om (.sl .no 1 (r6.1.map cI)) ?_
           refine Oy (want:=false) hb38 ?_
           obtain ⟨r39,hr39,hM⟩:=zaj hM
           refine zau (bs:=[.agg (Wheel.cells a0.Wheel),.sl .no 1 (r6.1.map cI)]) (by decide) rfl rfl ((zgh hr39).le (.k (.k .nil))) ?_
           refine Oy (want:=false) hb38 ?_
           refine Om (.i r5.1) ?_
           refine Oy (want:=false) hb38 ?_
           refine Oi (.b (r39 != r5.1)) ?_
           refine Oy (want:=true) hb36 ?_
           refine Pf (.b (r39 != r5.1)) hb38 ?_
           refine Pt (.b (r39 != r5.1)) hb36 ?_
           refine Ni ?_
           exact zah (r39 != r5.1) (.k (.k (.k (.k (.k .nil))))) ⟨(hS.keep [] rfl).up (by omega),hM⟩
         ·replace hM:=ifF hM hb36
          refine On (want:=true) hb36 ?_
          refine On (want:=true) hb36 ?_
          refine On (want:=true) hb36 ?_
          refine On (want:=true) hb36 ?_
          refine On (want:=true) hb36 ?_
          refine On (want:=true) hb36 ?_
          refine zaw (j:=8) (by decide) rfl ?_
          refine zaw (j:=8) (by decide) rfl ?_
          refine zaw (j:=8) (by decide) rfl ?_
          refine zaw (j:=8) (by decide) rfl ?_
          refine zaw (j:=8) (by decide) rfl ?_
          refine zaw (j:=8) (by decide) rfl ?_
          refine On (want:=true) hb36 ?_
          refine Pf (.b false) hb36 ?_
          refine Ni ?_
          exact zah false (.k (.k (.k (.k (.k .nil))))) ⟨(hS.keep [] rfl).up (by omega),hM⟩
      ·refine Rg 8 ?_
       refine Om (.b v9) ?_
       refine Om (.i r5.2) ?_
       refine Oi (.b (r5.2==0)) ?_
       refine Om (.b (r5.2==0)) ?_
       rcases bft (r5.2==0) with hb40 | hb40
       ·replace hM:=ifT hM hb40
        refine Oy (want:=true) hb40 ?_
        refine Om (.i r5.1) ?_
        refine Oy (want:=true) hb40 ?_
        refine Oi (.b (r5.1==0)) ?_
        refine Pt (.b (r5.1==0)) hb40 ?_
        refine zvd (m:=v9) (n:=(r5.1==0)) (by decide) rfl rfl zoU ?_
        refine Ni ?_
        exact zah (!(v9==(r5.1==0))) (.k (.k (.k (.k (.k (.k (.k .nil))))))) ⟨(hS.keep [] rfl).up (by omega),hM⟩
       ·replace hM:=ifF hM hb40
        refine On (want:=true) hb40 ?_
        refine On (want:=true) hb40 ?_
        refine Pf (.b false) hb40 ?_
        refine zvd (m:=v9) (n:=false) (by decide) rfl rfl zoU ?_
        refine Ni ?_
        exact zah (!(v9==false)) (.k (.k (.k (.k (.k (.k (.k .nil))))))) ⟨(hS.keep [] rfl).up (by omega),hM⟩
     ·refine Sq ?_
      refine Rg 1 ?_
      refine Oa (.i 0) ?_
      refine Ni ?_
      refine Ws ?_
      refine zay ?_
      refine zbU (V:=Bool×Int) (fun v=>[(1,.sl .no 1 (a1.map cI)),(2,.ep (Box.cells a0)),(5,.sl .no 1 (r4.1.map cI)),(7,.i r5.1),(8,.i r5.2),(9,.sl .no 1 (r6.1.map cI)),(10,.sl .no 1 (r6.2.1.map cI)),(12,.b v.1),(13,.i v.2)]) (fun v m11 H' g'=>St (·<g) H0 [] H' g'/\zaT n a0 a1 r4 r5 r6 m11 v.1 v.2=some r) (n:=n) (false,0) (.k (.k (.k (.k (.k (.k (.k (.k (.k .nil))))))))) ⟨(hS.keep [] rfl).up (by omega),hM⟩ ?_
      rintro ⟨v41,v42⟩ m11 H g11 ⟨hS,hM⟩
      obtain _ | m11:=m11
      ·exact nomatch (show none=some _ from hM)
      change wpA _ _ _ _ (Fr.of [(1,.sl .no 1 (a1.map cI)),(2,.ep (Box.cells a0)),(5,.sl .no 1 (r4.1.map cI)),(7,.i r5.1),(8,.i r5.2),(9,.sl .no 1 (r6.1.map cI)),(10,.sl .no 1 (r6.2.1.map cI)),(12,.b v41),(13,.i v42)]) _ _
      replace hS:St (·<g) H0 [] H g11:=hS
      replace hM:zcv n a0 a1 r4 r5 r6 (zaT n a0 a1 r4 r5 r6 m11) v41 v42=some r:=hM
      refine Sq ?_
      refine Sq ?_
      refine Rg 4 ?_
      refine Om (.i v42) ?_
      refine Om (.sl .no 1 (r4.1.map cI)) ?_
      refine zbu (n:=r4.1.length) (by decide) rfl (List.length_map _) zax ?_
      refine Oi (.b (decide (v42<(r4.1.length:Int)))) ?_
      refine Ni ?_
      refine Ws ?_
      rcases bft (decide (v42<(r4.1.length:Int))) with hb43 | hb43
      ·replace hM:=ifT hM hb43
       refine Ct hb43 ?_
       refine zaz ?_
       refine Ws ?_
       refine zaS (J:=Bool) (fun j=>[(1,.sl .no 1 (a1.map cI)),(2,.ep (Box.cells a0)),(5,.sl .no 1 (r4.1.map cI)),(7,.i r5.1),(8,.i r5.2),(9,.sl .no 1 (r6.1.map cI)),(10,.sl .no 1 (r6.2.1.map cI)),(12,.b j),(13,.i v42)]) (fun j H' g'=>St (·<g) H0 [] H' g'/\zbJ (zaT n a0 a1 r4 r5 r6 m11) v42 j=some r) ?_ ?_
       ·rintro v44 H g12 ⟨hS,hM⟩
        change wpA _ _ _ _ (Fr.of [(1,.sl .no 1 (a1.map cI)),(2,.ep (Box.cells a0)),(5,.sl .no 1 (r4.1.map cI)),(7,.i r5.1),(8,.i r5.2),(9,.sl .no 1 (r6.1.map cI)),(10,.sl .no 1 (r6.2.1.map cI)),(12,.b v44),(13,.i v42)]) _ _
        replace hS:St (·<g) H0 [] H g12:=hS
        replace hM:zbJ (zaT n a0 a1 r4 r5 r6 m11) v42 v44=some r:=hM
        refine Rg 3 ?_
        refine Om (.i v42) ?_
        refine Oi (.i (w64 (v42+1))) ?_
        refine Oa (.i (w64 (v42+1))) ?_
        refine Ni ?_
        exact za6 (v44,w64 (v42+1)) (Nat.lt_succ_self _) (.k (.k (.k (.k (.k (.k (.k (.k (.k .nil))))))))) ⟨(hS.keep [] rfl).up (by omega),hM⟩
       ·refine zay ?_
        have hS0:=hS
        refine zcD (n:=10) rfl (by kernel_rfl) ?_
        refine Om (.b v41) ?_
        refine Om (.b v41) ?_
        rcases bft v41 with hb45 | hb45
        ·replace hM:=ifT hM hb45
         refine On (want:=false) hb45 ?_
         refine On (want:=false) hb45 ?_
         refine On (want:=false) hb45 ?_
         refine On (want:=false) hb45 ?_
         refine On (want:=false) hb45 ?_
         refine On (want:=false) hb45 ?_
         refine Pt (.b true) hb45 ?_
         refine Oa (.b true) ?_
         refine Ni ?_
         refine zal ?_
         exact zah true (.k (.k (.k (.k (.k (.k (.k (.k (.k .nil))))))))) ⟨(hS.keep [] rfl).up (by omega),hM⟩
        ·replace hM:=ifF hM hb45
         refine Oy (want:=false) hb45 ?_
         refine Olg (.agg (Box.cells a0)) zba ?_
         refine Oy (want:=false) hb45 ?_
         refine Om (.sl .no 1 (r4.1.map cI)) ?_
         refine Oy (want:=false) hb45 ?_
         refine Om (.i v42) ?_
         refine Oy (want:=false) hb45 ?_
         obtain ⟨x46,hx46,hM⟩:=zaj hM
         refine zaW (xs:=r4.1) (f:=cI) (z:=v42) (u:=x46) (by decide) rfl rfl zaG hx46 ?_
         refine Oy (want:=false) hb45 ?_
         refine Olp (.i x46) zaf zav ?_
         refine Oy (want:=false) hb45 ?_
         obtain ⟨r47,hr47,hM⟩:=zaj hM
         refine zau (bs:=[.agg (Box.cells a0),.i x46]) (by decide) rfl rfl ((zf1 hr47).le (.k (.k .nil))) ?_
         refine Pf (.b r47) hb45 ?_
         refine Oa (.b r47) ?_
         refine Ni ?_
         refine zal ?_
         exact zah r47 (.k (.k (.k (.k (.k (.k (.k (.k (.k .nil))))))))) ⟨(hS.keep [] rfl).up (by omega),hM⟩
      ·replace hM:=ifF hM hb43
       refine Cf hb43 ?_
       refine zbM ?_
       refine zat ?_
       refine zap ?_
       refine zaD ?_
       exact zah v41 (.k (.k (.k (.k (.k (.k (.k .nil))))))) ⟨(hS.keep [] rfl).up (by omega),hM⟩
   ·refine Rg 17 ?_
    refine Om (.i r4.2) ?_
    refine Oi (.b (r4.2 != 0)) ?_
    refine Om (.b (r4.2 != 0)) ?_
    rcases bft (r4.2 != 0) with hb48 | hb48
    ·replace hM:=ifT hM hb48
     refine On (want:=false) hb48 ?_
     refine On (want:=false) hb48 ?_
     refine On (want:=false) hb48 ?_
     refine Pt (.b true) hb48 ?_
     refine Om (.b true) ?_
     refine Og ?_
     refine Og ?_
     refine Og ?_
     refine zct (v:=.b true) (e:=true) (by decide) rfl rfl rfl ?_
     refine Om (.b true) ?_
     refine Og ?_
     refine Og ?_
     refine Og ?_
     refine zct (v:=.b true) (e:=true) (by decide) rfl rfl rfl ?_
     refine Ni ?_
     exact zah true (.k (.k (.k (.k (.k (.k (.k (.k .nil)))))))) ⟨(hS.keep [] rfl).up (by omega),hM⟩
    ·replace hM:=ifF hM hb48
     refine Oy (want:=false) hb48 ?_
     refine Om (.i r5.2) ?_
     refine Oy (want:=false) hb48 ?_
     obtain ⟨r49,hr49,hM⟩:=zaj hM
     refine zau (bs:=[.i r5.2]) (by decide) rfl rfl ((zkM hr49).le (.k .nil)) ?_
     refine Oy (want:=false) hb48 ?_
     refine zdD (e:=r49) (by decide) rfl ?_
     refine Pf (.b (!r49)) hb48 ?_
     refine Om (.b (!r49)) ?_
     rcases bft (!r49) with hb50 | hb50
     ·replace hM:=ifT hM hb50
      refine On (want:=false) hb50 ?_
      refine On (want:=false) hb50 ?_
      refine On (want:=false) hb50 ?_
      refine Pt (.b true) hb50 ?_
      refine Om (.b true) ?_
      refine Og ?_
      refine Og ?_
      refine Og ?_
      refine zct (v:=.b true) (e:=true) (by decide) rfl rfl rfl ?_
      refine Ni ?_
      exact zah true (.k (.k (.k (.k (.k (.k (.k (.k .nil)))))))) ⟨(hS.keep [] rfl).up (by omega),hM⟩
     ·replace hM:=ifF hM hb50
      refine Oy (want:=false) hb50 ?_
      refine Om (.i r6.2.2) ?_
      refine Oy (want:=false) hb50 ?_
      refine Om (.i r5.2) ?_
      refine Oy (want:=false) hb50 ?_
      refine Oi (.b (r6.2.2 != r5.2)) ?_
      refine Pf (.b (r6.2.2 != r5.2)) hb50 ?_
      refine Om (.b (r6.2.2 != r5.2)) ?_
      rcases bft (r6.2.2 != r5.2) with hb51 | hb51
      ·replace hM:=ifT hM hb51
       refine On (want:=false) hb51 ?_
       refine On (want:=false) hb51 ?_
       refine On (want:=false) hb51 ?_
       refine Pt (.b true) hb51 ?_
       refine Ni ?_
       exact zah true (.k (.k (.k (.k (.k (.k (.k (.k .nil)))))))) ⟨(hS.keep [] rfl).up (by omega),hM⟩
      ·replace hM:=ifF hM hb51
       refine Oy (want:=false) hb51 ?_
       refine Om (.sl .no 1 (r4.1.map cI)) ?_
       refine Oy (want:=false) hb51 ?_
       refine zbu (n:=r4.1.length) (by decide) rfl (List.length_map _) zax ?_
       refine Oy (want:=false) hb51 ?_
       refine Oi (.b (decide ((r4.1.length:Int)>10000))) ?_
       refine Pf (.b (decide ((r4.1.length:Int)>10000))) hb51 ?_
       refine Ni ?_
       exact zah (decide ((r4.1.length:Int)>10000)) (.k (.k (.k (.k (.k (.k (.k (.k .nil)))))))) ⟨(hS.keep [] rfl).up (by omega),hM⟩
 ·refine Rg 10 ?_
  refine Olg (.agg (Box.cells a0)) zba ?_
  obtain ⟨r52,hr52,hM⟩:=zaj hM
  refine zau (bs:=[.agg (Box.cells a0)]) (by decide) rfl rfl ((zmc hr52).le (.k .nil)) ?_
  refine zdD (e:=r52) (by decide) rfl ?_
  refine Om (.b (!r52)) ?_
  rcases bft (!r52) with hb53 | hb53
  ·replace hM:=ifT hM hb53
   refine On (want:=false) hb53 ?_
   refine On (want:=false) hb53 ?_
   refine On (want:=false) hb53 ?_
   refine On (want:=false) hb53 ?_
   refine On (want:=false) hb53 ?_
   refine Pt (.b true) hb53 ?_
   refine Ni ?_
   exact zah true (.k (.k (.k .nil))) ⟨(hS.keep [] rfl).up (by omega),hM⟩
  ·replace hM:=ifF hM hb53
   refine Oy (want:=false) hb53 ?_
   refine Of ((Box.cells a0)) zbK ?_
   refine Oy (want:=false) hb53 ?_
   refine Olg (.agg (Wheel.cells a0.Wheel)) zb0 ?_
   refine Oy (want:=false) hb53 ?_
   refine Om (.sl .no 1 (a1.map cI)) ?_
   refine Oy (want:=false) hb53 ?_
   obtain ⟨r54,hr54,hM⟩:=zaj hM
   refine zau (bs:=[.agg (Wheel.cells a0.Wheel),.sl .no 1 (a1.map cI)]) (by decide) rfl rfl ((zme hr54).le (.k (.k .nil))) ?_
   refine Oy (want:=false) hb53 ?_
   refine zdD (e:=r54) (by decide) rfl ?_
   refine Pf (.b (!r54)) hb53 ?_
   refine Ni ?_
   exact zah (!r54) (.k (.k (.k .nil))) ⟨(hS.keep [] rfl).up (by omega),hM⟩
end Go.Proofs.Ytenogpmlhpcibaa
