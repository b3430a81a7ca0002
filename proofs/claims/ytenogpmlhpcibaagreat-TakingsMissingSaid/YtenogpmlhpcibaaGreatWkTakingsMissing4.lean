/-
  The code returns what the functions say (printed by gen.py).
  Conditions: none.
-/
import Derived.Test.YtenogpmlhpcibaaGreatWkTakingsMissing3
import Derived.Test.YtenogpmlhpcibaaGreatSh
import Derived.Test.YtenogpmlhpcibaaGreatKs
import Derived.Test.YtenogpmlhpcibaaGreatEn
set_option linter.all false
namespace Go.Proofs.YtenogpmlhpcibaaGreat
open Go Go.AM Go.Law
set_option linter.unusedVariables false
set_option maxRecDepth 4000
set_option maxHeartbeats 4000000
theorem zh9 {n:Nat} {a0:Box} {r:(List (List Int))} (hM:zeH n a0=some r):zaC Tryz.prog 33 [.agg (Box.cells a0)] (.sl .no 1 (r.map (cL 1 cI))):=by
 refine zal mixed Tryz.func33 rfl (by decide) Tryz.ntmps33 (by simp) ?pure fun H0 g hf=>?_
 case pure=>exact .sl _ _ (zaw (fun x=>(zab (.sl _ _ (zaw (fun x=>(zab (.v _) zaE)))) zaE)))
 rw [zai]
 change wpA _ _ _ _ (Fr.of [(0,.agg (Box.cells a0))]) H0 g
 have hS:=St.start hf
 refine Sq ?_
 refine Rg 2 ?_
 refine zcu (v:=.agg (Box.cells a0)) (cs:=(Box.cells a0)) hS (by decide) rfl rfl (by omega) fun H hS=>?_
 refine Oa (.sl .nil 0 []) ?_
 refine Ni ?_
 refine za8 (L':=[]) 0 1 hS rfl rfl rfl fun H hS=>?_
 refine Ws ?_
 refine Sq ?_
 refine Rg 3 ?_
 refine Olg (.agg (Box.cells a0)) za4 ?_
 obtain ⟨r1,hr1,hM⟩:=zaf hM
 refine zat (bs:=[.agg (Box.cells a0)]) (by decide) rfl rfl ((zjH hr1).le (.k .nil)) ?_
 refine Oa (.sl .no 1 (r1.map cI)) ?_
 refine Ni ?_
 refine Ws ?_
 refine Sq ?_
 refine Rg 1 ?_
 refine Oa (.sl .nil 0 []) ?_
 refine Ni ?_
 refine zlq [(1,.ep (Box.cells a0)),(3,.sl .no 1 (r1.map cI)),(4,.sl (.id (g+2+3+1)) 1 (([]:List Int).map cI))] 4 1 3 hS (by omega) (by decide) rfl (.k (.k (.k .nil))) fun H hS=>?_
 refine zaR (J:=(List Int)) (fun j=>[(1,.ep (Box.cells a0)),(3,.sl .no 1 (r1.map cI)),(4,.sl (.id (g+2+3+1)) 1 (j.map cI))]) (fun j H' g'=>St (·<g) H0 [(g+2+3+1,.row 3 j.length)] H' g'/\zdj n a0 r1 j=some r) ?_ ?_
 ·rintro v2 H g1 ⟨hS,hM⟩
  change wpA _ _ _ _ (Fr.of [(1,.ep (Box.cells a0)),(3,.sl .no 1 (r1.map cI)),(4,.sl (.id (g+2+3+1)) 1 (v2.map cI))]) _ _
  replace hS:St (·<g) H0 [(g+2+3+1,.row 3 v2.length)] H g1:=hS
  replace hM:zdj n a0 r1 v2=some r:=hM
  refine Sq ?_
  have hS0:=hS
  refine zb7 (n:=9) rfl (by kernel_rfl) ?_
  refine Om (.sl (.id (g+2+3+1)) 1 (v2.map cI)) ?_
  obtain ⟨r3,hr3,hM⟩:=zaf hM
  refine zat (bs:=[.sl (.id (g+2+3+1)) 1 (v2.map cI),.sl .nil 0 []]) (by decide) rfl rfl ((zis hr3).le (.cons (.sl _ _ _) (.cons (.sl0 .nil 1 0) .nil))) ?_
  refine Of ((Box.cells a0)) zba ?_
  refine Olg (.agg (Wheel.cells a0.Wheel)) zbt ?_
  refine Om (.sl (.id (g+2+3+1)) 1 (v2.map cI)) ?_
  refine Om (.sl .no 1 (r1.map cI)) ?_
  obtain ⟨r4,hr4,hM⟩:=zaf hM
  refine zat (bs:=[.agg (Wheel.cells a0.Wheel),.sl (.id (g+2+3+1)) 1 (v2.map cI),.sl .no 1 (r1.map cI)]) (by decide) rfl rfl ((zob hr4).le (.k (.cons (.sl _ _ _) (.k .nil)))) ?_
  refine Oa (.sl .no 1 (r3.map (cL 1 cI))) ?_
  refine Oa (.sl .no 1 (r4.map (cL 1 cI))) ?_
  refine Ni ?_
  replace hS:=hS.keep (L':=[]) [false] rfl
  refine Ws ?_
  refine Sq ?_
  refine Rg 1 ?_
  refine Oa (.sl .nil 0 []) ?_
  refine Ni ?_
  refine zlq [(1,.ep (Box.cells a0)),(3,.sl .no 1 (r1.map cI)),(6,.sl .no 1 (r3.map (cL 1 cI))),(7,.sl .no 1 (r4.map (cL 1 cI))),(8,.sl (.id (g1+9+1)) 1 (([]:List (List Int)).map (cL 1 cI)))] 8 1 22 hS (by omega) (by decide) rfl (.k (.k (.k (.k (.k .nil))))) fun H hS=>?_
  refine zaR (J:=(List (List Int))) (fun j=>[(8,.sl (.id (g1+9+1)) 1 (j.map (cL 1 cI)))]) (fun j H' g'=>St (·<g) H0 [(g1+9+1,.row 22 j.length)] H' g'/\zeo j=some r) ?_ ?_
  ·rintro v5 H g2 ⟨hS,hM⟩
   change wpA _ _ _ _ (Fr.of [(8,.sl (.id (g1+9+1)) 1 (v5.map (cL 1 cI)))]) _ _
   replace hS:St (·<g) H0 [(g1+9+1,.row 22 v5.length)] H g2:=hS
   replace hM:zeo v5=some r:=hM
   refine Sq ?_
   refine Rg 2 ?_
   refine Om (.sl (.id (g1+9+1)) 1 (v5.map (cL 1 cI))) ?_
   refine Oa (.sl (.id (g1+9+1)) 1 (v5.map (cL 1 cI))) ?_
   refine Ni ?_
   refine Ws ?_
   refine zaM ?_
   refine zaX (x:=.sl (.id (g1+9+1)) 1 (v5.map (cL 1 cI))) (f:=fun r=>.sl .no 1 (r.map (cL 1 cI))) (.inr rfl) ?_ (.sl _ _ _) (Option.some.inj hM) hS
   exact (zau (zae (x:=.sl (.id (g1+9+1)) 1 (v5.map (cL 1 cI))) rfl))
  ·refine Sq ?_
   refine Rg 1 ?_
   refine Oa (.i 0) ?_
   refine Ni ?_
   refine Ws ?_
   refine zan ?_
   refine zbg (V:=(List (List Int))×Int) (fun v=>[(1,.ep (Box.cells a0)),(3,.sl .no 1 (r1.map cI)),(6,.sl .no 1 (r3.map (cL 1 cI))),(7,.sl .no 1 (r4.map (cL 1 cI))),(8,.sl (.id (g1+9+1)) 1 (v.1.map (cL 1 cI))),(9,.i v.2)]) (fun v m3 H' g'=>St (·<g) H0 [(g1+9+1,.row 22 v.1.length)] H' g'/\zaN n a0 r1 r3 r4 m3 v.1 v.2=some r) (n:=n) (([]:List (List Int)),0) (.k (.k (.k (.k (.k (.k .nil)))))) ⟨(hS.keep [true] rfl).up (by omega),hM⟩ ?_
   rintro ⟨v6,v7⟩ m3 H g3 ⟨hS,hM⟩
   obtain _ | m3:=m3
   ·exact nomatch (show none=some _ from hM)
   change wpA _ _ _ _ (Fr.of [(1,.ep (Box.cells a0)),(3,.sl .no 1 (r1.map cI)),(6,.sl .no 1 (r3.map (cL 1 cI))),(7,.sl .no 1 (r4.map (cL 1 cI))),(8,.sl (.id (g1+9+1)) 1 (v6.map (cL 1 cI))),(9,.i v7)]) _ _
   replace hS:St (·<g) H0 [(g1+9+1,.row 22 v6.length)] H g3:=hS
   replace hM:zdE n a0 r1 r3 r4 (zaN n a0 r1 r3 r4 m3) v6 v7=some r:=hM
   refine Sq ?_
   refine Sq ?_
   refine Rg 4 ?_
   refine Om (.i v7) ?_
   refine Om (.sl .no 1 (r3.map (cL 1 cI))) ?_
   refine zbf (n:=r3.length) (by decide) rfl (List.length_map _) zkd ?_
   refine Oi (.b (decide (v7<(r3.length:Int)))) ?_
   refine Ni ?_
   refine Ws ?_
   rcases bft (decide (v7<(r3.length:Int))) with hb8 | hb8
   ·replace hM:=ifT hM hb8
    refine Ct hb8 ?_
    refine zav ?_
    refine Ws ?_
    refine zaR (J:=(List (List Int))) (fun j=>[(1,.ep (Box.cells a0)),(3,.sl .no 1 (r1.map cI)),(6,.sl .no 1 (r3.map (cL 1 cI))),(7,.sl .no 1 (r4.map (cL 1 cI))),(8,.sl (.id (g1+9+1)) 1 (j.map (cL 1 cI))),(9,.i v7)]) (fun j H' g'=>St (·<g) H0 [(g1+9+1,.row 22 j.length)] H' g'/\zcK (zaN n a0 r1 r3 r4 m3) v7 j=some r) ?_ ?_
    ·rintro v9 H g4 ⟨hS,hM⟩
     change wpA _ _ _ _ (Fr.of [(1,.ep (Box.cells a0)),(3,.sl .no 1 (r1.map cI)),(6,.sl .no 1 (r3.map (cL 1 cI))),(7,.sl .no 1 (r4.map (cL 1 cI))),(8,.sl (.id (g1+9+1)) 1 (v9.map (cL 1 cI))),(9,.i v7)]) _ _
     replace hS:St (·<g) H0 [(g1+9+1,.row 22 v9.length)] H g4:=hS
     replace hM:zcK (zaN n a0 r1 r3 r4 m3) v7 v9=some r:=hM
     refine Rg 3 ?_
     refine Om (.i v7) ?_
     refine Oi (.i (w64 (v7+1))) ?_
     refine Oa (.i (w64 (v7+1))) ?_
     refine Ni ?_
     exact za0 (v9,w64 (v7+1)) (Nat.lt_succ_self _) (.k (.k (.k (.k (.k (.k .nil)))))) ⟨(hS.keep [true] rfl).up (by omega),hM⟩
    ·refine zan ?_
     refine Sq ?_
     refine Rg 1 ?_
     refine Oa (.sl .nil 0 []) ?_
     refine Ni ?_
     refine zlq [(1,.ep (Box.cells a0)),(3,.sl .no 1 (r1.map cI)),(6,.sl .no 1 (r3.map (cL 1 cI))),(7,.sl .no 1 (r4.map (cL 1 cI))),(8,.sl (.id (g1+9+1)) 1 (v6.map (cL 1 cI))),(9,.i v7),(10,.sl (.id (g3+4+1)) 1 (([]:List Int).map cI))] 10 1 3 hS (by omega) (by decide) rfl (.k (.k (.k (.k (.k (.k (.k .nil))))))) fun H hS=>?_
     refine zaR (J:=(List Int)) (fun j=>[(1,.ep (Box.cells a0)),(3,.sl .no 1 (r1.map cI)),(6,.sl .no 1 (r3.map (cL 1 cI))),(7,.sl .no 1 (r4.map (cL 1 cI))),(8,.sl (.id (g1+9+1)) 1 (v6.map (cL 1 cI))),(9,.i v7),(10,.sl (.id (g3+4+1)) 1 (j.map cI))]) (fun j H' g'=>St (·<g) H0 [(g3+4+1,.row 3 j.length),(g1+9+1,.row 22 v6.length)] H' g'/\zcM n (zaN n a0 r1 r3 r4 m3) a0 r4 v6 v7 j=some r) ?_ ?_
     ·rintro v10 H g5 ⟨hS,hM⟩
      change wpA _ _ _ _ (Fr.of [(1,.ep (Box.cells a0)),(3,.sl .no 1 (r1.map cI)),(6,.sl .no 1 (r3.map (cL 1 cI))),(7,.sl .no 1 (r4.map (cL 1 cI))),(8,.sl (.id (g1+9+1)) 1 (v6.map (cL 1 cI))),(9,.i v7),(10,.sl (.id (g3+4+1)) 1 (v10.map cI))]) _ _
      replace hS:St (·<g) H0 [(g3+4+1,.row 3 v10.length),(g1+9+1,.row 22 v6.length)] H g5:=hS
      replace hM:zcM n (zaN n a0 r1 r3 r4 m3) a0 r4 v6 v7 v10=some r:=hM
      refine zaR (J:=Bool) (fun j=>[(1,.ep (Box.cells a0)),(3,.sl .no 1 (r1.map cI)),(6,.sl .no 1 (r3.map (cL 1 cI))),(7,.sl .no 1 (r4.map (cL 1 cI))),(8,.sl (.id (g1+9+1)) 1 (v6.map (cL 1 cI))),(9,.i v7),(10,.sl (.id (g3+4+1)) 1 (v10.map cI)),(71,.b j)]) (fun j H' g'=>St (·<g) H0 [(g3+4+1,.row 3 v10.length),(g1+9+1,.row 22 v6.length)] H' g'/\zcL (zaN n a0 r1 r3 r4 m3) v6 v7 v10 j=some r) ?_ ?_
      ·rintro v11 H g6 ⟨hS,hM⟩
       change wpA _ _ _ _ (Fr.of [(1,.ep (Box.cells a0)),(3,.sl .no 1 (r1.map cI)),(6,.sl .no 1 (r3.map (cL 1 cI))),(7,.sl .no 1 (r4.map (cL 1 cI))),(8,.sl (.id (g1+9+1)) 1 (v6.map (cL 1 cI))),(9,.i v7),(10,.sl (.id (g3+4+1)) 1 (v10.map cI)),(71,.b v11)]) _ _
       replace hS:St (·<g) H0 [(g3+4+1,.row 3 v10.length),(g1+9+1,.row 22 v6.length)] H g6:=hS
       replace hM:zcL (zaN n a0 r1 r3 r4 m3) v6 v7 v10 v11=some r:=hM
       rcases bft v11 with hb12 | hb12
       ·replace hM:=ifT hM hb12
        refine Ct hb12 ?_
        refine Rg 5 ?_
        refine Om (.sl (.id (g1+9+1)) 1 (v6.map (cL 1 cI))) ?_
        refine Om (.sl (.id (g3+4+1)) 1 (v10.map cI)) ?_
        refine zj8 (es:=[[.sl (.id (g3+4+1)) 1 (v10.map cI)]]) (es':=[[.sl .no 1 (v10.map cI)]]) hS (by decide) ze3 zkU rfl zkV rfl (by decide) (by omega) (zqH (zqI (.cons (.sl _ _ _) .nil))) fun H hS=>?_
        obtain ⟨l13,hl13,hM⟩:=zaf hM
        refine zcp (xs:=v6) (ys:=([v10]:List (List Int))) (zs:=l13) (f:=(cL 1 cI)) (L':=[(g6+2,.row 22 1),(g3+4+1,.row 3 v10.length),(g1+9+1,.row 22 l13.length)]) 2 hS (by decide) rfl rfl rfl rfl .no ze3 zkU zkV hl13 rfl fun H hS=>?_
        refine Oa (.sl (.id (g1+9+1)) 1 (l13.map (cL 1 cI))) ?_
        refine Ni ?_
        refine zag ?_
        exact zak l13 (.k (.k (.k (.k (.k (.k .nil)))))) ⟨(hS.keep [false,false,true] rfl).up (by omega),hM⟩
       ·replace hM:=ifF hM hb12
        refine Cf hb12 ?_
        refine zav ?_
        refine zag ?_
        exact zak v6 (.k (.k (.k (.k (.k (.k .nil)))))) ⟨(hS.keep [false,true] rfl).up (by omega),hM⟩
      ·have hS0:=hS
       refine zb7 (n:=10) rfl (by kernel_rfl) ?_
       refine Om (.sl (.id (g3+4+1)) 1 (v10.map cI)) ?_
       obtain ⟨r14,hr14,hM⟩:=zaf hM
       refine zat (bs:=[.sl (.id (g3+4+1)) 1 (v10.map cI)]) (by decide) rfl rfl ((zk0 hr14).le (.cons (.sl _ _ _) .nil)) ?_
       refine Om (.b r14) ?_
       rcases bft r14 with hb15 | hb15
       ·replace hM:=ifT hM hb15
        refine Oy (want:=true) hb15 ?_
        refine Olg (.agg (Box.cells a0)) za4 ?_
        refine Oy (want:=true) hb15 ?_
        refine Om (.sl .no 1 (r4.map (cL 1 cI))) ?_
        refine Oy (want:=true) hb15 ?_
        refine Om (.i v7) ?_
        refine Oy (want:=true) hb15 ?_
        obtain ⟨x16,hx16,hM⟩:=zaf hM
        refine zaG (xs:=r4) (f:=(cL 1 cI)) (z:=v7) (u:=x16) (by decide) rfl rfl ze3 hx16 ?_
        refine Oy (want:=true) hb15 ?_
        refine Olp (.sl .no 1 (x16.map cI)) zao zaB ?_
        refine Oy (want:=true) hb15 ?_
        obtain ⟨r17,hr17,hM⟩:=zaf hM
        refine zat (bs:=[.agg (Box.cells a0),.sl .no 1 (x16.map cI)]) (by decide) rfl rfl ((zo3 hr17).le (.k (.k .nil))) ?_
        refine Pt (.b r17) hb15 ?_
        refine Ni ?_
        exact zak r17 (.k (.k (.k (.k (.k (.k (.k (.k .nil)))))))) ⟨(hS.keep [true,true] rfl).up (by omega),hM⟩
       ·replace hM:=ifF hM hb15
        refine On (want:=true) hb15 ?_
        refine On (want:=true) hb15 ?_
        refine On (want:=true) hb15 ?_
        refine On (want:=true) hb15 ?_
        refine On (want:=true) hb15 ?_
        refine On (want:=true) hb15 ?_
        refine Pf (.b false) hb15 ?_
        refine Ni ?_
        exact zak false (.k (.k (.k (.k (.k (.k (.k (.k .nil)))))))) ⟨(hS.keep [true,true] rfl).up (by omega),hM⟩
     ·refine Sq ?_
      refine Rg 1 ?_
      refine Oa (.i 0) ?_
      refine Ni ?_
      refine Ws ?_
      refine zan ?_
      refine zbg (V:=(List Int)×Int) (fun v=>[(1,.ep (Box.cells a0)),(3,.sl .no 1 (r1.map cI)),(6,.sl .no 1 (r3.map (cL 1 cI))),(7,.sl .no 1 (r4.map (cL 1 cI))),(8,.sl (.id (g1+9+1)) 1 (v6.map (cL 1 cI))),(9,.i v7),(10,.sl (.id (g3+4+1)) 1 (v.1.map cI)),(11,.i v.2)]) (fun v m7 H' g'=>St (·<g) H0 [(g3+4+1,.row 3 v.1.length),(g1+9+1,.row 22 v6.length)] H' g'/\zbE n (zaN n a0 r1 r3 r4 m3) a0 r1 r3 r4 v6 v7 m7 v.1 v.2=some r) (n:=n) (([]:List Int),0) (.k (.k (.k (.k (.k (.k (.k (.k .nil)))))))) ⟨(hS.keep [true,true] rfl).up (by omega),hM⟩ ?_
      rintro ⟨v18,v19⟩ m7 H g7 ⟨hS,hM⟩
      obtain _ | m7:=m7
      ·exact nomatch (show none=some _ from hM)
      change wpA _ _ _ _ (Fr.of [(1,.ep (Box.cells a0)),(3,.sl .no 1 (r1.map cI)),(6,.sl .no 1 (r3.map (cL 1 cI))),(7,.sl .no 1 (r4.map (cL 1 cI))),(8,.sl (.id (g1+9+1)) 1 (v6.map (cL 1 cI))),(9,.i v7),(10,.sl (.id (g3+4+1)) 1 (v18.map cI)),(11,.i v19)]) _ _
      replace hS:St (·<g) H0 [(g3+4+1,.row 3 v18.length),(g1+9+1,.row 22 v6.length)] H g7:=hS
      replace hM:zdD n (zaN n a0 r1 r3 r4 m3) a0 r1 r3 r4 v6 v7 (zbE n (zaN n a0 r1 r3 r4 m3) a0 r1 r3 r4 v6 v7 m7) v18 v19=some r:=hM
      refine Sq ?_
      refine Sq ?_
      refine Rg 4 ?_
      refine Om (.i v19) ?_
      refine Om (.sl .no 1 (r1.map cI)) ?_
      refine zbf (n:=r1.length) (by decide) rfl (List.length_map _) zaz ?_
      refine Oi (.b (decide (v19<(r1.length:Int)))) ?_
      refine Ni ?_
      refine Ws ?_
      rcases bft (decide (v19<(r1.length:Int))) with hb20 | hb20
      ·replace hM:=ifT hM hb20
       refine Ct hb20 ?_
       refine zav ?_
       refine Ws ?_
       refine Sq ?_
       refine zan ?_
       have hS0:=hS
       refine zb7 (n:=16) rfl (by kernel_rfl) ?_
       refine Om (.sl (.id (g3+4+1)) 1 (v18.map cI)) ?_
       refine Om (.sl .no 1 (r3.map (cL 1 cI))) ?_
       refine Om (.i v7) ?_
       obtain ⟨x21,hx21,hM⟩:=zaf hM
       refine zaG (xs:=r3) (f:=(cL 1 cI)) (z:=v7) (u:=x21) (by decide) rfl rfl ze3 hx21 ?_
       refine Olp (.sl .no 1 (x21.map cI)) zao zaB ?_
       refine Om (.i v19) ?_
       obtain ⟨x22,hx22,hM⟩:=zaf hM
       refine zaG (xs:=x21) (f:=cI) (z:=v19) (u:=x22) (by decide) rfl rfl zaq hx22 ?_
       refine Olp (.i x22) zah zas ?_
       refine Om (.sl .no 1 (r1.map cI)) ?_
       refine Om (.i v19) ?_
       obtain ⟨x23,hx23,hM⟩:=zaf hM
       refine zaG (xs:=r1) (f:=cI) (z:=v19) (u:=x23) (by decide) rfl rfl zaq hx23 ?_
       refine Olp (.i x23) zah zas ?_
       refine Oi (.i (w64 (x22-x23))) ?_
       refine zaU (es:=[[.i (w64 (x22-x23))]]) hS (by decide) zaq zbc rfl za9 rfl (by decide) (by omega) fun H hS=>?_
       obtain ⟨l24,hl24,hM⟩:=zaf hM
       refine zcp (xs:=v18) (ys:=([w64 (x22-x23)]:List Int)) (zs:=l24) (f:=cI) (L':=[(g7+4+13,.row 3 1),(g3+4+1,.row 3 l24.length),(g1+9+1,.row 22 v6.length)]) 1 hS (by decide) rfl rfl rfl rfl (.st hS0 0 rfl (by omega)) zaq zbc za9 hl24 rfl fun H hS=>?_
       refine Oa (.sl (.id (g3+4+1)) 1 (l24.map cI)) ?_
       refine Ni ?_
       refine zag ?_
       replace hS:=hS.keep (L':=[(g3+4+1,.row 3 l24.length),(g1+9+1,.row 22 v6.length)]) [false,true,true] rfl
       refine Ws ?_
       refine Rg 3 ?_
       refine Om (.i v19) ?_
       refine Oi (.i (w64 (v19+1))) ?_
       refine Oa (.i (w64 (v19+1))) ?_
       refine Ni ?_
       exact za0 (l24,w64 (v19+1)) (Nat.lt_succ_self _) (.k (.k (.k (.k (.k (.k (.k (.k .nil)))))))) ⟨(hS.keep [true,true] rfl).up (by omega),hM⟩
      ·replace hM:=ifF hM hb20
       refine Cf hb20 ?_
       refine zbb ?_
       refine zam ?_
       refine zaj ?_
       refine zap ?_
       exact zak v18 (.k (.k (.k (.k (.k (.k (.k .nil))))))) ⟨(hS.keep [true,true] rfl).up (by omega),hM⟩
   ·replace hM:=ifF hM hb8
    refine Cf hb8 ?_
    refine zbb ?_
    refine zam ?_
    refine zaj ?_
    refine zap ?_
    exact zak v6 (.k .nil) ⟨(hS.keep [true] rfl).up (by omega),hM⟩
 ·refine Sq ?_
  refine Rg 1 ?_
  refine Oa (.i 0) ?_
  refine Ni ?_
  refine Ws ?_
  refine zan ?_
  refine zbg (V:=(List Int)×Int) (fun v=>[(1,.ep (Box.cells a0)),(3,.sl .no 1 (r1.map cI)),(4,.sl (.id (g+2+3+1)) 1 (v.1.map cI)),(5,.i v.2)]) (fun v m8 H' g'=>St (·<g) H0 [(g+2+3+1,.row 3 v.1.length)] H' g'/\zbF n a0 r1 m8 v.1 v.2=some r) (n:=n) (([]:List Int),0) (.k (.k (.k (.k .nil)))) ⟨(hS.keep [true] rfl).up (by omega),hM⟩ ?_
  rintro ⟨v25,v26⟩ m8 H g8 ⟨hS,hM⟩
  obtain _ | m8:=m8
  ·exact nomatch (show none=some _ from hM)
  change wpA _ _ _ _ (Fr.of [(1,.ep (Box.cells a0)),(3,.sl .no 1 (r1.map cI)),(4,.sl (.id (g+2+3+1)) 1 (v25.map cI)),(5,.i v26)]) _ _
  replace hS:St (·<g) H0 [(g+2+3+1,.row 3 v25.length)] H g8:=hS
  replace hM:zdF n a0 r1 (zbF n a0 r1 m8) v25 v26=some r:=hM
  refine Sq ?_
  refine Sq ?_
  refine Rg 4 ?_
  refine Om (.i v26) ?_
  refine Om (.sl .no 1 (r1.map cI)) ?_
  refine zbf (n:=r1.length) (by decide) rfl (List.length_map _) zaz ?_
  refine Oi (.b (decide (v26<(r1.length:Int)))) ?_
  refine Ni ?_
  refine Ws ?_
  rcases bft (decide (v26<(r1.length:Int))) with hb27 | hb27
  ·replace hM:=ifT hM hb27
   refine Ct hb27 ?_
   refine zav ?_
   refine Ws ?_
   refine Sq ?_
   refine zan ?_
   refine Rg 9 ?_
   refine Om (.sl (.id (g+2+3+1)) 1 (v25.map cI)) ?_
   refine Om (.sl .no 1 (r1.map cI)) ?_
   refine Om (.i v26) ?_
   obtain ⟨x28,hx28,hM⟩:=zaf hM
   refine zaG (xs:=r1) (f:=cI) (z:=v26) (u:=x28) (by decide) rfl rfl zaq hx28 ?_
   refine Olp (.i x28) zah zas ?_
   refine Oi (.i (w64 (x28+2))) ?_
   refine zaU (es:=[[.i (w64 (x28+2))]]) hS (by decide) zaq zbc rfl za9 rfl (by decide) (by omega) fun H hS=>?_
   obtain ⟨l29,hl29,hM⟩:=zaf hM
   refine zcp (xs:=v25) (ys:=([w64 (x28+2)]:List Int)) (zs:=l29) (f:=cI) (L':=[(g8+4+6,.row 3 1),(g+2+3+1,.row 3 l29.length)]) 1 hS (by decide) rfl rfl rfl rfl .no zaq zbc za9 hl29 rfl fun H hS=>?_
   refine Oa (.sl (.id (g+2+3+1)) 1 (l29.map cI)) ?_
   refine Ni ?_
   refine zag ?_
   replace hS:=hS.keep (L':=[(g+2+3+1,.row 3 l29.length)]) [false,true] rfl
   refine Ws ?_
   refine Rg 3 ?_
   refine Om (.i v26) ?_
   refine Oi (.i (w64 (v26+1))) ?_
   refine Oa (.i (w64 (v26+1))) ?_
   refine Ni ?_
   exact za0 (l29,w64 (v26+1)) (Nat.lt_succ_self _) (.k (.k (.k (.k .nil)))) ⟨(hS.keep [true] rfl).up (by omega),hM⟩
  ·replace hM:=ifF hM hb27
   refine Cf hb27 ?_
   refine zbb ?_
   refine zam ?_
   refine zaj ?_
   refine zap ?_
   exact zak v25 (.k (.k (.k .nil))) ⟨(hS.keep [true] rfl).up (by omega),hM⟩
theorem ziY {n:Nat} {a0:Box} {r:Int×Int} (hM:zdk n a0=some r):zaC Tryz.prog 9 [.agg (Box.cells a0)] (.tup [.i r.1,.i r.2]):=by
 refine zal mixed Tryz.func9 rfl (by decide) Tryz.ntmps9 (by simp) ?pure fun H0 g hf=>?_
 case pure=>exact .tup _ (zab (.v _) (zab (.v _) zaE))
 rw [zai]
 change wpA _ _ _ _ (Fr.of [(0,.agg (Box.cells a0))]) H0 g
 have hS:=St.start hf
 refine Sq ?_
 refine Rg 3 ?_
 refine zcu (v:=.agg (Box.cells a0)) (cs:=(Box.cells a0)) hS (by decide) rfl rfl (by omega) fun H hS=>?_
 refine Oa (.i 0) ?_
 refine Oa (.i 0) ?_
 refine Ni ?_
 refine za8 (L':=[]) 0 1 hS rfl rfl rfl fun H hS=>?_
 refine Ws ?_
 refine Sq ?_
 refine Sq ?_
 refine Rg 3 ?_
 refine Olg (.agg (Box.cells a0)) za4 ?_
 obtain ⟨r1,hr1,hM⟩:=zaf hM
 refine zat (bs:=[.agg (Box.cells a0)]) (by decide) rfl rfl ((zko hr1).le (.k .nil)) ?_
 refine Oa (.i r1) ?_
 refine Ni ?_
 refine Ws ?_
 refine Sq ?_
 refine Rg 2 ?_
 refine Om (.i r1) ?_
 refine Oi (.b (r1 != 0)) ?_
 refine Ni ?_
 refine Ws ?_
 rcases bft (r1 != 0) with hb2 | hb2
 ·replace hM:=ifT hM hb2
  refine Ct hb2 ?_
  refine Sq ?_
  refine Rg 3 ?_
  refine Om (.i r1) ?_
  refine Oa (.i 0) ?_
  refine Oa (.i r1) ?_
  refine Ni ?_
  refine Ws ?_
  refine zaM ?_
  refine zar ?_
  refine zaX (x:=.tup [.i 0,.i r1]) (f:=fun r=>.tup [.i r.1,.i r.2]) (.inr rfl) ?_ (.refl _) (Option.some.inj hM) hS
  exact (zcD (zae (x:=.i 0) rfl) (zae (x:=.i r1) rfl))
 ·replace hM:=ifF hM hb2
  refine Cf hb2 ?_
  refine zav ?_
  refine Ws ?_
  refine Sq ?_
  refine Rg 3 ?_
  refine Olg (.agg (Box.cells a0)) za4 ?_
  obtain ⟨r3,hr3,hM⟩:=zaf hM
  refine zat (bs:=[.agg (Box.cells a0)]) (by decide) rfl rfl ((zh9 hr3).le (.k .nil)) ?_
  refine Oa (.sl .no 1 (r3.map (cL 1 cI))) ?_
  refine Ni ?_
  refine Ws ?_
  refine Sq ?_
  refine Sq ?_
  refine Rg 3 ?_
  refine Om (.sl .no 1 (r3.map (cL 1 cI))) ?_
  refine zbf (n:=r3.length) (by decide) rfl (List.length_map _) zkd ?_
  refine Oi (.b ((r3.length:Int)==0)) ?_
  refine Ni ?_
  refine Ws ?_
  rcases bft ((r3.length:Int)==0) with hb4 | hb4
  ·replace hM:=ifT hM hb4
   refine Ct hb4 ?_
   refine Sq ?_
   refine Rg 2 ?_
   refine Oa (.i 0) ?_
   refine Oa (.i 3) ?_
   refine Ni ?_
   refine Ws ?_
   refine zaM ?_
   refine zar ?_
   refine zaX (x:=.tup [.i 0,.i 3]) (f:=fun r=>.tup [.i r.1,.i r.2]) (.inr rfl) ?_ (.refl _) (Option.some.inj hM) hS
   exact (zcD (zae (x:=.i 0) rfl) (zae (x:=.i 3) rfl))
  ·replace hM:=ifF hM hb4
   refine Cf hb4 ?_
   refine zav ?_
   refine Ws ?_
   refine Sq ?_
   have hS0:=hS
   refine zb7 (n:=7) rfl (by kernel_rfl) ?_
   refine Of ((Box.cells a0)) zba ?_
   refine Olg (.agg (Wheel.cells a0.Wheel)) zbt ?_
   refine Om (.sl .no 1 (r3.map (cL 1 cI))) ?_
   obtain ⟨x5,hx5,hM⟩:=zaf hM
   refine zaG (xs:=r3) (f:=(cL 1 cI)) (z:=0) (u:=x5) (by decide) rfl rfl ze3 hx5 ?_
   refine Olp (.sl .no 1 (x5.map cI)) zao zaB ?_
   obtain ⟨r6,hr6,hM⟩:=zaf hM
   refine zat (bs:=[.agg (Wheel.cells a0.Wheel),.sl .no 1 (x5.map cI)]) (by decide) rfl rfl ((zes hr6).le (.k (.k .nil))) ?_
   refine Oa (.i r6) ?_
   refine Ni ?_
   refine Ws ?_
   refine zaR (J:=Int) (fun j=>[(6,.i j)]) (fun j H' g'=>St (·<g) H0 [] H' g'/\zfq j=some r) ?_ ?_
   ·rintro v7 H g1 ⟨hS,hM⟩
    change wpA _ _ _ _ (Fr.of [(6,.i v7)]) _ _
    replace hS:St (·<g) H0 [] H g1:=hS
    replace hM:zfq v7=some r:=hM
    refine Sq ?_
    refine Rg 3 ?_
    refine Om (.i v7) ?_
    refine Oa (.i v7) ?_
    refine Oa (.i 0) ?_
    refine Ni ?_
    refine Ws ?_
    refine zaM ?_
    refine zaX (x:=.tup [.i v7,.i 0]) (f:=fun r=>.tup [.i r.1,.i r.2]) (.inr rfl) ?_ (.refl _) (Option.some.inj hM) hS
    exact (zcD (zae (x:=.i v7) rfl) (zae (x:=.i 0) rfl))
   ·refine Sq ?_
    refine Rg 1 ?_
    refine Oa (.i 0) ?_
    refine Ni ?_
    refine Ws ?_
    refine zan ?_
    refine zbg (V:=Int×Int) (fun v=>[(1,.ep (Box.cells a0)),(5,.sl .no 1 (r3.map (cL 1 cI))),(6,.i v.1),(7,.i v.2)]) (fun v m2 H' g'=>St (·<g) H0 [] H' g'/\zcQ n a0 r3 m2 v.1 v.2=some r) (n:=n) (r6,0) (.k (.k (.k (.k .nil)))) ⟨(hS.keep [] rfl).up (by omega),hM⟩ ?_
    rintro ⟨v8,v9⟩ m2 H g2 ⟨hS,hM⟩
    obtain _ | m2:=m2
    ·exact nomatch (show none=some _ from hM)
    change wpA _ _ _ _ (Fr.of [(1,.ep (Box.cells a0)),(5,.sl .no 1 (r3.map (cL 1 cI))),(6,.i v8),(7,.i v9)]) _ _
    replace hS:St (·<g) H0 [] H g2:=hS
    replace hM:zep n a0 r3 (zcQ n a0 r3 m2) v8 v9=some r:=hM
    refine Sq ?_
    refine Sq ?_
    refine Rg 4 ?_
    refine Om (.i v9) ?_
    refine Om (.sl .no 1 (r3.map (cL 1 cI))) ?_
    refine zbf (n:=r3.length) (by decide) rfl (List.length_map _) zkd ?_
    refine Oi (.b (decide (v9<(r3.length:Int)))) ?_
    refine Ni ?_
    refine Ws ?_
    rcases bft (decide (v9<(r3.length:Int))) with hb10 | hb10
    ·replace hM:=ifT hM hb10
     refine Ct hb10 ?_
     refine zav ?_
     refine Ws ?_
     refine Sq ?_
     refine zan ?_
     have hS0:=hS
     refine zb7 (n:=10) rfl (by kernel_rfl) ?_
     refine Om (.i v8) ?_
     refine Of ((Box.cells a0)) zba ?_
     refine Olg (.agg (Wheel.cells a0.Wheel)) zbt ?_
     refine Om (.sl .no 1 (r3.map (cL 1 cI))) ?_
     refine Om (.i v9) ?_
     obtain ⟨x11,hx11,hM⟩:=zaf hM
     refine zaG (xs:=r3) (f:=(cL 1 cI)) (z:=v9) (u:=x11) (by decide) rfl rfl ze3 hx11 ?_
     refine Olp (.sl .no 1 (x11.map cI)) zao zaB ?_
     obtain ⟨r12,hr12,hM⟩:=zaf hM
     refine zat (bs:=[.agg (Wheel.cells a0.Wheel),.sl .no 1 (x11.map cI)]) (by decide) rfl rfl ((zes hr12).le (.k (.k .nil))) ?_
     refine zwR (v:=.i (min v8 r12)) (by decide) rfl ?_
     refine Oa (.i (min v8 r12)) ?_
     refine Ni ?_
     refine zag ?_
     refine Ws ?_
     refine Rg 3 ?_
     refine Om (.i v9) ?_
     refine Oi (.i (w64 (v9+1))) ?_
     refine Oa (.i (w64 (v9+1))) ?_
     refine Ni ?_
     exact za0 ((min v8 r12),w64 (v9+1)) (Nat.lt_succ_self _) (.k (.k (.k (.k .nil)))) ⟨(hS.keep [] rfl).up (by omega),hM⟩
    ·replace hM:=ifF hM hb10
     refine Cf hb10 ?_
     refine zbb ?_
     refine zam ?_
     refine zaj ?_
     refine zap ?_
     exact zak v8 (.k .nil) ⟨(hS.keep [] rfl).up (by omega),hM⟩
theorem zgV {S:Type} {Lo:S->BL} (hk:∀s s',zlH (Lo s) (Lo s')) (hnd:∀s,(ids (Lo s)).Nodup) (hin:∀s,InB In (Lo s)) {aF:Gap_->S->Option (Bool×S)} {f0:AV} (hF:∀s H,Has H (Lo s)->In H f0) (h0:cellsOf f0=some [f0]) (hf:∀{x0:Gap_} {s:S} {r:Bool×S},aF x0 s=some r->zqp Tryz.prog f0 [.agg (Gap_.cells x0)] (Lo s) (.b r.1) (Lo r.2)) {n:Nat} {a0:List Gap_} {st:S} {r:Int×S} (hM:zc5 n aF a0 st=some r):zlp Tryz.prog 64 [.sl .no 2 (a0.map Gap_.cells),f0] (Lo st) (.i r.1) (Lo r.2):=by
 have hnd0:∀s,(ids (Lo s)).Nodup:=fun s=>hnd s
 refine zeN mixed Tryz.func64 rfl (by decide) Tryz.ntmps64 (by simp) (hk _ _) (hnd st) ?pure ?cells fun H0 g hf_ hp=>?_
 case pure=>exact fun H _=>(show Go.AM.Pure _ from .v _).inH
 case cells=>exact hin _
 rw [zai]
 change wpA _ _ _ _ (Fr.of [(0,.sl .no 2 (a0.map Gap_.cells)),(1,f0)]) H0 g
 have hS:=St.startH (L:=([]++Lo st)) hf_ (hnd st) hp
 replace hS:St (fun i=>i<g/\i∉ids (Lo st)) H0 ([]++Lo st) H0 g:=hS
 refine Sq ?_
 refine Rg 1 ?_
 refine Oa (.i 0) ?_
 refine Ni ?_
 refine Ws ?_
 refine zaR (J:=S) (fun j=>[]) (fun j H' g'=>St (fun i=>i<g/\i∉ids (Lo st)) H0 ([]++Lo j) H' g'/\zbG j=some r) ?_ ?_
 ·rintro v1 H g1 ⟨hS,hM⟩
  change wpA _ _ _ _ (Fr.of []) _ _
  replace hS:St (fun i=>i<g/\i∉ids (Lo st)) H0 ([]++Lo v1) H g1:=hS
  replace hM:zbG v1=some r:=hM
  refine Sq ?_
  refine Rg 1 ?_
  refine Oa (.i (-1)) ?_
  refine Ni ?_
  refine Ws ?_
  refine zaM ?_
  refine zhk (x:=.i (-1)) (f:=fun r=>.i r.1) (fd:=fun r=>(Lo r.2)) (.inr rfl) ?_ (.refl _) (Option.some.inj hM) hS 0 rfl
  exact (zau (zae (x:=.i (-1)) rfl))
 ·refine Sq ?_
  refine Rg 3 ?_
  refine Om (.sl .no 2 (a0.map Gap_.cells)) ?_
  refine zbf (n:=a0.length) (by decide) rfl (List.length_map _) zjg ?_
  refine Om (.i 0) ?_
  refine Ni ?_
  refine Ws ?_
  refine zan ?_
  refine zbg (V:=Int×S) (fun v=>[(0,.sl .no 2 (a0.map Gap_.cells)),(1,f0),(7,.i (a0.length:Int)),(8,.i v.1)]) (fun v m3 H' g'=>St (fun i=>i<g/\i∉ids (Lo st)) H0 ([]++Lo v.2) H' g'/\zaI a0 aF m3 v.1 v.2=some r) (n:=n) (0,st) (.k (.k (.k (.k .nil)))) ⟨(hS.keep [] rfl).up (by omega),hM⟩ ?_
  rintro ⟨v3,v4⟩ m3 H g3 ⟨hS,hM⟩
  obtain _ | m3:=m3
  ·exact nomatch (show none=some _ from hM)
  change wpA _ _ _ _ (Fr.of [(0,.sl .no 2 (a0.map Gap_.cells)),(1,f0),(7,.i (a0.length:Int)),(8,.i v3)]) _ _
  replace hS:St (fun i=>i<g/\i∉ids (Lo st)) H0 ([]++Lo v4) H g3:=hS
  replace hM:zbs a0 aF (zaI a0 aF m3) v3 v4=some r:=hM
  refine Sq ?_
  refine Rg 1 ?_
  refine Oi (.b (decide (v3<(a0.length:Int)))) ?_
  refine Ni ?_
  refine Ws ?_
  refine Sq ?_
  rcases bft (decide (v3<(a0.length:Int))) with hb5 | hb5
  ·replace hM:=ifT hM hb5
   refine Ct hb5 ?_
   refine zav ?_
   refine Ws ?_
   refine Sq ?_
   refine zan ?_
   refine Sq ?_
   refine Rg 2 ?_
   refine Om (.i v3) ?_
   refine Oa (.i v3) ?_
   refine Ni ?_
   refine Ws ?_
   refine Sq ?_
   refine Rg 6 ?_
   refine Om (f0) ?_
   refine Om (.sl .no 2 (a0.map Gap_.cells)) ?_
   refine Om (.i v3) ?_
   obtain ⟨x6,hx6,hM⟩:=zaf hM
   refine zaG (xs:=a0) (f:=Gap_.cells) (z:=v3) (u:=x6) (by decide) rfl rfl zgT hx6 ?_
   refine Olg (.agg (Gap_.cells x6)) zuF ?_
   obtain ⟨r7,hr7,hM⟩:=zaf hM
   replace hS:St (fun i=>i<g/\i∉ids (Lo st)) H0 ([]++Lo v4) _ _:=hS
   refine znM (bs:=[.agg (Gap_.cells x6)]) (.inl rfl) hS (by decide) rfl rfl ((hf hr7).le (.k .nil)) (hk _ _).ids (by omega) fun H hS=>?_
   refine Ni ?_
   refine Ws ?_
   rcases bft r7.1 with hb8 | hb8
   ·replace hM:=ifT hM hb8
    refine Ct hb8 ?_
    refine Sq ?_
    refine Rg 2 ?_
    refine Om (.i v3) ?_
    refine Oa (.i v3) ?_
    refine Ni ?_
    refine Ws ?_
    refine zaM ?_
    refine za5 ?_
    refine zar ?_
    refine zbR ?_
    refine za5 ?_
    refine zct ?_
    refine zhk (x:=.i v3) (f:=fun r=>.i r.1) (fd:=fun r=>(Lo r.2)) (.inr rfl) ?_ (.refl _) (Option.some.inj hM) hS 0 rfl
    exact (zau (zae (x:=.i v3) rfl))
   ·replace hM:=ifF hM hb8
    refine Cf hb8 ?_
    refine zav ?_
    refine zag ?_
    refine Ws ?_
    refine Rg 2 ?_
    refine Oi (.i (w64 (v3+1))) ?_
    refine Om (.i (w64 (v3+1))) ?_
    refine Ni ?_
    exact za0 (w64 (v3+1),r7.2) (Nat.lt_succ_self _) (.k (.k (.k (.k .nil)))) ⟨(hS.keep [] rfl).up (by omega),hM⟩
  ·replace hM:=ifF hM hb5
   refine Cf hb5 ?_
   refine zbb ?_
   refine zam ?_
   refine zaj ?_
   refine zap ?_
   exact zak v4 .nil ⟨(hS.keep [] rfl).up (by omega),hM⟩
theorem zf8 {S:Type} {Lo:S->BL} (hk:∀s s',zlH (Lo s) (Lo s')) (hnd:∀s,(ids (Lo s)).Nodup) (hin:∀s,InB In (Lo s)) {aF:Gap_->S->Option (Bool×S)} {f0:AV} (hF:∀s H,Has H (Lo s)->In H f0) (h0:cellsOf f0=some [f0]) (hf:∀{x0:Gap_} {s:S} {r:Bool×S},aF x0 s=some r->zqp Tryz.prog f0 [.agg (Gap_.cells x0)] (Lo s) (.b r.1) (Lo r.2)) {n:Nat} {a0:List Gap_} {st:S} {r:Bool×S} (hM:zbH n aF a0 st=some r):zlp Tryz.prog 34 [.sl .no 2 (a0.map Gap_.cells),f0] (Lo st) (.b r.1) (Lo r.2):=by
 have hnd0:∀s,(ids (Lo s)).Nodup:=fun s=>hnd s
 refine zeN mixed Tryz.func34 rfl (by decide) Tryz.ntmps34 (by simp) (hk _ _) (hnd st) ?pure ?cells fun H0 g hf_ hp=>?_
 case pure=>exact fun H _=>(show Go.AM.Pure _ from .v _).inH
 case cells=>exact hin _
 rw [zai]
 change wpA _ _ _ _ (Fr.of [(0,.sl .no 2 (a0.map Gap_.cells)),(1,f0)]) H0 g
 have hS:=St.startH (L:=([]++Lo st)) hf_ (hnd st) hp
 replace hS:St (fun i=>i<g/\i∉ids (Lo st)) H0 ([]++Lo st) H0 g:=hS
 refine Sq ?_
 refine Rg 1 ?_
 refine Oa (.b false) ?_
 refine Ni ?_
 refine Ws ?_
 refine Sq ?_
 refine Rg 5 ?_
 refine Om (.sl .no 2 (a0.map Gap_.cells)) ?_
 refine Om (f0) ?_
 obtain ⟨r1,hr1,hM⟩:=zaf hM
 replace hS:St (fun i=>i<g/\i∉ids (Lo st)) H0 ([]++Lo st) _ _:=hS
 refine znN (bs:=[.sl .no 2 (a0.map Gap_.cells),f0]) (.inl rfl) hS (by decide) rfl rfl ((zgV (Lo:=Lo)  hk hnd0 hin (aF:=aF) hF h0 hf hr1).le (.k (.k .nil))) (hk _ _).ids (by omega) fun H hS=>?_
 refine Oi (.b (decide (r1.1≥0))) ?_
 refine Oa (.b (decide (r1.1≥0))) ?_
 refine Ni ?_
 refine ze0 [(4,.b (decide (r1.1≥0)))] (.k .nil) ?_
 refine zaM ?_
 refine zhk (x:=.b (decide (r1.1≥0))) (f:=fun r=>.b r.1) (fd:=fun r=>(Lo r.2)) (.inr rfl) ?_ (.refl _) (Option.some.inj hM) hS 0 rfl
 exact (zau (zae (x:=.b (decide (r1.1≥0))) rfl))
theorem zku {a0:Gap_} {a1:Int} {r:Bool} (hM:zd8 a0 a1=some r):zaC Tryz.prog 35 [.agg (Gap_.cells a0),.ep [.i a1]] (.b r):=by
 refine zal mixed Tryz.func35 rfl (by decide) Tryz.ntmps35 (by simp) ?pure fun H0 g hf=>?_
 case pure=>exact .v _
 rw [zai]
 change wpA _ _ _ _ (Fr.of [(0,.agg (Gap_.cells a0)),(1,.ep [.i a1])]) H0 g
 have hS:=St.start hf
 refine Sq ?_
 refine Rg 2 ?_
 refine zcu (v:=.agg (Gap_.cells a0)) (cs:=(Gap_.cells a0)) hS (by decide) rfl rfl (by omega) fun H hS=>?_
 refine Oa (.b false) ?_
 refine Ni ?_
 refine za8 (L':=[]) 0 2 hS rfl rfl rfl fun H hS=>?_
 refine Ws ?_
 refine Sq ?_
 refine Rg 7 ?_
 refine Of ((Gap_.cells a0)) ziS ?_
 refine Olp (.sl .no 1 (a0.purse.map cI)) zao zaB ?_
 refine Olp (.i a1) zah zas ?_
 obtain ⟨x1,hx1,hM⟩:=zaf hM
 refine zaG (xs:=a0.purse) (f:=cI) (z:=a1) (u:=x1) (by decide) rfl rfl zaq hx1 ?_
 refine Olp (.i x1) zah zas ?_
 refine Oi (.b (decide (x1>0))) ?_
 refine Oa (.b (decide (x1>0))) ?_
 refine Ni ?_
 refine ze0 [(3,.b (decide (x1>0)))] (.k .nil) ?_
 refine zaM ?_
 refine zaX (x:=.b (decide (x1>0))) (f:=fun r=>.b r) (.inr rfl) ?_ (.refl _) (Option.some.inj hM) hS
 exact (zau (zae (x:=.b (decide (x1>0))) rfl))
theorem zmt {n:Nat} {a0:Box} {r:(List Int)×Int} (hM:zdZ n a0=some r):zaC Tryz.prog 10 [.agg (Box.cells a0)] (.tup [.sl .no 1 (r.1.map cI),.i r.2]):=by
 refine zal mixed Tryz.func10 rfl (by decide) Tryz.ntmps10 (by simp) ?pure fun H0 g hf=>?_
 case pure=>exact .tup _ (zab (.sl _ _ (zaw (fun x=>(zab (.v _) zaE)))) (zab (.v _) zaE))
 rw [zai]
 change wpA _ _ _ _ (Fr.of [(0,.agg (Box.cells a0))]) H0 g
 have hS:=St.start hf
 refine Sq ?_
 refine Rg 3 ?_
 refine zcu (v:=.agg (Box.cells a0)) (cs:=(Box.cells a0)) hS (by decide) rfl rfl (by omega) fun H hS=>?_
 refine Oa (.sl .nil 0 []) ?_
 refine Oa (.i 0) ?_
 refine Ni ?_
 refine za8 (L':=[]) 0 1 hS rfl rfl rfl fun H hS=>?_
 refine Ws ?_
 refine Sq ?_
 refine Rg 9 ?_
 refine Olg (.agg (Box.cells a0)) za4 ?_
 obtain ⟨r1,hr1,hM⟩:=zaf hM
 refine zat (bs:=[.agg (Box.cells a0)]) (by decide) rfl rfl ((zgU hr1).le (.k .nil)) ?_
 refine Om (.tup [pA Box_.cells r1.1,.sl .no 2 (r1.2.1.map Gap_.cells),.i r1.2.2]) ?_
 refine Ox (pA Box_.cells r1.1) ?_
 refine Ox (.sl .no 2 (r1.2.1.map Gap_.cells)) ?_
 refine Ox (.i r1.2.2) ?_
 refine Oa (pA Box_.cells r1.1) ?_
 refine Oa (.sl .no 2 (r1.2.1.map Gap_.cells)) ?_
 refine Oa (.i r1.2.2) ?_
 refine Ni ?_
 refine Ws ?_
 refine Sq ?_
 refine Sq ?_
 refine Rg 2 ?_
 refine Om (.i r1.2.2) ?_
 refine Oi (.b (r1.2.2 != 0)) ?_
 refine Ni ?_
 refine Ws ?_
 rcases bft (r1.2.2 != 0) with hb2 | hb2
 ·replace hM:=ifT hM hb2
  refine Ct hb2 ?_
  refine Sq ?_
  refine Rg 3 ?_
  refine Om (.i r1.2.2) ?_
  refine Oa (.sl .nil 0 []) ?_
  refine Oa (.i r1.2.2) ?_
  refine Ni ?_
  refine Ws ?_
  refine zaM ?_
  refine zar ?_
  refine zaX (x:=.tup [.sl .nil 0 [],.i r1.2.2]) (f:=fun r=>.tup [.sl .no 1 (r.1.map cI),.i r.2]) (.inr rfl) ?_ (.tupL (.cons (.sl0 .nil 1 0) (.k .nil))) (Option.some.inj hM) hS
  exact (zcD (zae (x:=.sl .nil 0 []) rfl) (zae (x:=.i r1.2.2) rfl))
 ·replace hM:=ifF hM hb2
  refine Cf hb2 ?_
  refine zav ?_
  refine Ws ?_
  refine Sq ?_
  refine Rg 1 ?_
  refine Oa (.sl .nil 0 []) ?_
  refine Ni ?_
  refine zlq [(1,.ep (Box.cells a0)),(5,.sl .no 2 (r1.2.1.map Gap_.cells)),(7,.sl (.id (g+3+9+2+1)) 1 (([]:List Int).map cI))] 7 1 3 hS (by omega) (by decide) rfl (.k (.k (.k .nil))) fun H hS=>?_
  refine zaR (J:=(List Int)) (fun j=>[(7,.sl (.id (g+3+9+2+1)) 1 (j.map cI))]) (fun j H' g'=>St (·<g) H0 [(g+3+9+2+1,.row 3 j.length)] H' g'/\zfr j=some r) ?_ ?_
  ·rintro v3 H g1 ⟨hS,hM⟩
   change wpA _ _ _ _ (Fr.of [(7,.sl (.id (g+3+9+2+1)) 1 (v3.map cI))]) _ _
   replace hS:St (·<g) H0 [(g+3+9+2+1,.row 3 v3.length)] H g1:=hS
   replace hM:zfr v3=some r:=hM
   refine Sq ?_
   refine Rg 3 ?_
   refine Om (.sl (.id (g+3+9+2+1)) 1 (v3.map cI)) ?_
   refine Oa (.sl (.id (g+3+9+2+1)) 1 (v3.map cI)) ?_
   refine Oa (.i 0) ?_
   refine Ni ?_
   refine Ws ?_
   refine zaM ?_
   refine zaX (x:=.tup [.sl (.id (g+3+9+2+1)) 1 (v3.map cI),.i 0]) (f:=fun r=>.tup [.sl .no 1 (r.1.map cI),.i r.2]) (.inr rfl) ?_ (.tupL (.cons (.sl _ _ _) (.k .nil))) (Option.some.inj hM) hS
   exact (zcD (zae (x:=.sl (.id (g+3+9+2+1)) 1 (v3.map cI)) rfl) (zae (x:=.i 0) rfl))
  ·refine Sq ?_
   refine Rg 5 ?_
   refine Of ((Box.cells a0)) zba ?_
   refine Of ((Box.cells a0)) zcr ?_
   refine Olp (.sl .no 1 (a0.Wheel.Coins.map cI)) zao zaB ?_
   refine zbf (n:=a0.Wheel.Coins.length) (by decide) rfl (List.length_map _) zaz ?_
   refine Om (.i 0) ?_
   refine Ni ?_
   refine Ws ?_
   refine zan ?_
   refine zbg (V:=(List Int)×Int) (fun v=>[(5,.sl .no 2 (r1.2.1.map Gap_.cells)),(7,.sl (.id (g+3+9+2+1)) 1 (v.1.map cI)),(21,.i (a0.Wheel.Coins.length:Int)),(22,.i v.2)]) (fun v m2 H' g'=>St (·<g) H0 [(g+3+9+2+1,.row 3 v.1.length)] H' g'/\zbQ n a0 r1 m2 v.1 v.2=some r) (n:=n) (([]:List Int),0) (.k (.k (.k (.k .nil)))) ⟨(hS.keep [true] rfl).up (by omega),hM⟩ ?_
   rintro ⟨v4,v5⟩ m2 H g2 ⟨hS,hM⟩
   obtain _ | m2:=m2
   ·exact nomatch (show none=some _ from hM)
   change wpA _ _ _ _ (Fr.of [(5,.sl .no 2 (r1.2.1.map Gap_.cells)),(7,.sl (.id (g+3+9+2+1)) 1 (v4.map cI)),(21,.i (a0.Wheel.Coins.length:Int)),(22,.i v5)]) _ _
   replace hS:St (·<g) H0 [(g+3+9+2+1,.row 3 v4.length)] H g2:=hS
   replace hM:zeq n a0 r1 (zbQ n a0 r1 m2) v4 v5=some r:=hM
   refine Sq ?_
   refine Rg 1 ?_
   refine Oi (.b (decide (v5<(a0.Wheel.Coins.length:Int)))) ?_
   refine Ni ?_
   refine Ws ?_
   refine Sq ?_
   rcases bft (decide (v5<(a0.Wheel.Coins.length:Int))) with hb6 | hb6
   ·replace hM:=ifT hM hb6
    refine Ct hb6 ?_
    refine zav ?_
    refine Ws ?_
    refine zaR (J:=(List Int)) (fun j=>[(5,.sl .no 2 (r1.2.1.map Gap_.cells)),(7,.sl (.id (g+3+9+2+1)) 1 (j.map cI)),(21,.i (a0.Wheel.Coins.length:Int)),(22,.i v5)]) (fun j H' g'=>St (·<g) H0 [(g+3+9+2+1,.row 3 j.length)] H' g'/\zd9 (zbQ n a0 r1 m2) v5 j=some r) ?_ ?_
    ·rintro v7 H g3 ⟨hS,hM⟩
     change wpA _ _ _ _ (Fr.of [(5,.sl .no 2 (r1.2.1.map Gap_.cells)),(7,.sl (.id (g+3+9+2+1)) 1 (v7.map cI)),(21,.i (a0.Wheel.Coins.length:Int)),(22,.i v5)]) _ _
     replace hS:St (·<g) H0 [(g+3+9+2+1,.row 3 v7.length)] H g3:=hS
     replace hM:zd9 (zbQ n a0 r1 m2) v5 v7=some r:=hM
     refine Rg 2 ?_
     refine Oi (.i (w64 (v5+1))) ?_
     refine Om (.i (w64 (v5+1))) ?_
     refine Ni ?_
     exact za0 (v7,w64 (v5+1)) (Nat.lt_succ_self _) (.k (.k (.k (.k .nil)))) ⟨(hS.keep [true] rfl).up (by omega),hM⟩
    ·refine zan ?_
     refine Sq ?_
     refine Rg 3 ?_
     refine Om (.i v5) ?_
     refine zbK hS (by decide) zuE (by omega) fun H hS=>?_
     refine za2 (v:=.i v5) (ns:=[.i v5]) (L':=[(g2+1+1,.cells [.i v5]),(g+3+9+2+1,.row 3 v4.length)]) 0 hS rfl rfl .no rfl rfl ziR nlb rfl fun H hS=>?_
     refine Ni ?_
     refine za8 (L':=[(g+3+9+2+1,.row 3 v4.length)]) 0 8 hS rfl rfl rfl fun H hS=>?_
     refine Ws ?_
     refine Sq ?_
     refine Rg 3 ?_
     refine Om (.sl .no 2 (r1.2.1.map Gap_.cells)) ?_
     refine zha (first:=[]) (cap:=[.ep [.i v5]]) (by decide) rfl rfl ?_
     obtain ⟨r8,hr8,hM⟩:=zaf hM
     refine zat (bs:=[.sl .no 2 (r1.2.1.map Gap_.cells),.fn (.func 35) [] [.ep [.i v5]]]) (by decide) rfl rfl (ziO ((zf8 (Lo:=(fun (_:Unit)=>[]))  (fun _ _=>znm) (fun _=>List.nodup_nil) (fun _=>zkQ) (aF:=(fun (x0:Gap_) (_:Unit)=>(zd8 x0 v5).map fun y=>(y,()))) (fun _ H hH=>(.fn _ _ _ zhZ (ziN (.ep _ (ziN (show Go.AM.Pure _ from .v _).inH zhZ)) zhZ))) rfl (fun h=>znW (zku (zj7 h))) hr8).le (.k (.k .nil)))) ?_
     refine Ni ?_
     refine Ws ?_
     rcases bft r8.1 with hb9 | hb9
     ·replace hM:=ifT hM hb9
      refine Ct hb9 ?_
      refine Rg 5 ?_
      refine Om (.sl (.id (g+3+9+2+1)) 1 (v4.map cI)) ?_
      refine Olp (.i v5) zah zas ?_
      refine zaU (es:=[[.i v5]]) hS (by decide) zaq zbc rfl za9 rfl (by decide) (by omega) fun H hS=>?_
      obtain ⟨l10,hl10,hM⟩:=zaf hM
      refine zcp (xs:=v4) (ys:=([v5]:List Int)) (zs:=l10) (f:=cI) (L':=[(g2+1+3+3+2,.row 3 1),(g+3+9+2+1,.row 3 l10.length)]) 1 hS (by decide) rfl rfl rfl rfl .no zaq zbc za9 hl10 rfl fun H hS=>?_
      refine Oa (.sl (.id (g+3+9+2+1)) 1 (l10.map cI)) ?_
      refine Ni ?_
      refine zag ?_
      exact zak l10 (.k (.k (.k (.k .nil)))) ⟨(hS.keep [false,true] rfl).up (by omega),hM⟩
     ·replace hM:=ifF hM hb9
      refine Cf hb9 ?_
      refine zav ?_
      refine zag ?_
      exact zak v4 (.k (.k (.k (.k .nil)))) ⟨(hS.keep [true] rfl).up (by omega),hM⟩
   ·replace hM:=ifF hM hb6
    refine Cf hb6 ?_
    refine zbb ?_
    refine zam ?_
    refine zaj ?_
    refine zap ?_
    exact zak v4 (.k .nil) ⟨(hS.keep [true] rfl).up (by omega),hM⟩
theorem zoc {n:Nat} {a0:Box} {r:(List Int)×Int} (hM:zfz n a0=some r):zaC Tryz.prog 11 [.agg (Box.cells a0)] (.tup [.sl .no 1 (r.1.map cI),.i r.2]):=by
 refine zal mixed Tryz.func11 rfl (by decide) Tryz.ntmps11 (by simp) ?pure fun H0 g hf=>?_
 case pure=>exact .tup _ (zab (.sl _ _ (zaw (fun x=>(zab (.v _) zaE)))) (zab (.v _) zaE))
 rw [zai]
 change wpA _ _ _ _ (Fr.of [(0,.agg (Box.cells a0))]) H0 g
 have hS:=St.start hf
 refine Sq ?_
 refine Rg 3 ?_
 refine zcu (v:=.agg (Box.cells a0)) (cs:=(Box.cells a0)) hS (by decide) rfl rfl (by omega) fun H hS=>?_
 refine Oa (.sl .nil 0 []) ?_
 refine Oa (.i 0) ?_
 refine Ni ?_
 refine za8 (L':=[]) 0 1 hS rfl rfl rfl fun H hS=>?_
 refine Ws ?_
 refine Sq ?_
 refine Rg 7 ?_
 refine Olg (.agg (Box.cells a0)) za4 ?_
 obtain ⟨r1,hr1,hM⟩:=zaf hM
 refine zat (bs:=[.agg (Box.cells a0)]) (by decide) rfl rfl ((ziY hr1).le (.k .nil)) ?_
 refine Om (.tup [.i r1.1,.i r1.2]) ?_
 refine Ox (.i r1.1) ?_
 refine Ox (.i r1.2) ?_
 refine Oa (.i r1.1) ?_
 refine Oa (.i r1.2) ?_
 refine Ni ?_
 refine Ws ?_
 refine Sq ?_
 refine Sq ?_
 refine Rg 2 ?_
 refine Om (.i r1.2) ?_
 refine Oi (.b (r1.2 != 0)) ?_
 refine Ni ?_
 refine Ws ?_
 rcases bft (r1.2 != 0) with hb2 | hb2
 ·replace hM:=ifT hM hb2
  refine Ct hb2 ?_
  refine Sq ?_
  refine Rg 3 ?_
  refine Om (.i r1.2) ?_
  refine Oa (.sl .nil 0 []) ?_
  refine Oa (.i r1.2) ?_
  refine Ni ?_
  refine Ws ?_
  refine zaM ?_
  refine zar ?_
  refine zaX (x:=.tup [.sl .nil 0 [],.i r1.2]) (f:=fun r=>.tup [.sl .no 1 (r.1.map cI),.i r.2]) (.inr rfl) ?_ (.tupL (.cons (.sl0 .nil 1 0) (.k .nil))) (Option.some.inj hM) hS
  exact (zcD (zae (x:=.sl .nil 0 []) rfl) (zae (x:=.i r1.2) rfl))
 ·replace hM:=ifF hM hb2
  refine Cf hb2 ?_
  refine zav ?_
  refine Ws ?_
  refine Sq ?_
  refine Rg 3 ?_
  refine Olg (.agg (Box.cells a0)) za4 ?_
  obtain ⟨r3,hr3,hM⟩:=zaf hM
  refine zat (bs:=[.agg (Box.cells a0)]) (by decide) rfl rfl ((zh9 hr3).le (.k .nil)) ?_
  refine Oa (.sl .no 1 (r3.map (cL 1 cI))) ?_
  refine Ni ?_
  refine Ws ?_
  refine Sq ?_
  refine Rg 1 ?_
  refine Oa (.sl .nil 0 []) ?_
  refine Ni ?_
  refine zlq [(1,.ep (Box.cells a0)),(4,.i r1.1),(6,.sl .no 1 (r3.map (cL 1 cI))),(7,.sl (.id (g+3+7+2+3+1)) 1 (([]:List Int).map cI))] 7 1 3 hS (by omega) (by decide) rfl (.k (.k (.k (.k .nil)))) fun H hS=>?_
  refine zaR (J:=(List Int)) (fun j=>[(7,.sl (.id (g+3+7+2+3+1)) 1 (j.map cI))]) (fun j H' g'=>St (·<g) H0 [(g+3+7+2+3+1,.row 3 j.length)] H' g'/\zgw j=some r) ?_ ?_
  ·rintro v4 H g1 ⟨hS,hM⟩
   change wpA _ _ _ _ (Fr.of [(7,.sl (.id (g+3+7+2+3+1)) 1 (v4.map cI))]) _ _
   replace hS:St (·<g) H0 [(g+3+7+2+3+1,.row 3 v4.length)] H g1:=hS
   replace hM:zgw v4=some r:=hM
   refine Sq ?_
   refine Rg 3 ?_
   refine Om (.sl (.id (g+3+7+2+3+1)) 1 (v4.map cI)) ?_
   refine Oa (.sl (.id (g+3+7+2+3+1)) 1 (v4.map cI)) ?_
   refine Oa (.i 0) ?_
   refine Ni ?_
   refine Ws ?_
   refine zaM ?_
   refine zaX (x:=.tup [.sl (.id (g+3+7+2+3+1)) 1 (v4.map cI),.i 0]) (f:=fun r=>.tup [.sl .no 1 (r.1.map cI),.i r.2]) (.inr rfl) ?_ (.tupL (.cons (.sl _ _ _) (.k .nil))) (Option.some.inj hM) hS
   exact (zcD (zae (x:=.sl (.id (g+3+7+2+3+1)) 1 (v4.map cI)) rfl) (zae (x:=.i 0) rfl))
  ·refine Sq ?_
   refine Rg 1 ?_
   refine Oa (.i 0) ?_
   refine Ni ?_
   refine Ws ?_
   refine zan ?_
   refine zbg (V:=(List Int)×Int) (fun v=>[(1,.ep (Box.cells a0)),(4,.i r1.1),(6,.sl .no 1 (r3.map (cL 1 cI))),(7,.sl (.id (g+3+7+2+3+1)) 1 (v.1.map cI)),(8,.i v.2)]) (fun v m2 H' g'=>St (·<g) H0 [(g+3+7+2+3+1,.row 3 v.1.length)] H' g'/\za7 n a0 r1 r3 m2 v.1 v.2=some r) (n:=n) (([]:List Int),0) (.k (.k (.k (.k (.k .nil))))) ⟨(hS.keep [true] rfl).up (by omega),hM⟩ ?_
   rintro ⟨v5,v6⟩ m2 H g2 ⟨hS,hM⟩
   obtain _ | m2:=m2
   ·exact nomatch (show none=some _ from hM)
   change wpA _ _ _ _ (Fr.of [(1,.ep (Box.cells a0)),(4,.i r1.1),(6,.sl .no 1 (r3.map (cL 1 cI))),(7,.sl (.id (g+3+7+2+3+1)) 1 (v5.map cI)),(8,.i v6)]) _ _
   replace hS:St (·<g) H0 [(g+3+7+2+3+1,.row 3 v5.length)] H g2:=hS
   replace hM:zft n a0 r1 r3 (za7 n a0 r1 r3 m2) v5 v6=some r:=hM
   refine Sq ?_
   refine Sq ?_
   refine Rg 5 ?_
   refine Om (.i v6) ?_
   refine Of ((Box.cells a0)) zch ?_
   refine Olp (.sl .no 1 (a0.Found.map cI)) zao zaB ?_
   refine zbf (n:=a0.Found.length) (by decide) rfl (List.length_map _) zaz ?_
   refine Oi (.b (decide (v6<(a0.Found.length:Int)))) ?_
   refine Ni ?_
   refine Ws ?_
   rcases bft (decide (v6<(a0.Found.length:Int))) with hb7 | hb7
   ·replace hM:=ifT hM hb7
    refine Ct hb7 ?_
    refine zav ?_
    refine Ws ?_
    refine zaR (J:=(List Int)) (fun j=>[(1,.ep (Box.cells a0)),(4,.i r1.1),(6,.sl .no 1 (r3.map (cL 1 cI))),(7,.sl (.id (g+3+7+2+3+1)) 1 (j.map cI)),(8,.i v6)]) (fun j H' g'=>St (·<g) H0 [(g+3+7+2+3+1,.row 3 j.length)] H' g'/\zdx (za7 n a0 r1 r3 m2) v6 j=some r) ?_ ?_
    ·rintro v8 H g3 ⟨hS,hM⟩
     change wpA _ _ _ _ (Fr.of [(1,.ep (Box.cells a0)),(4,.i r1.1),(6,.sl .no 1 (r3.map (cL 1 cI))),(7,.sl (.id (g+3+7+2+3+1)) 1 (v8.map cI)),(8,.i v6)]) _ _
     replace hS:St (·<g) H0 [(g+3+7+2+3+1,.row 3 v8.length)] H g3:=hS
     replace hM:zdx (za7 n a0 r1 r3 m2) v6 v8=some r:=hM
     refine Rg 3 ?_
     refine Om (.i v6) ?_
     refine Oi (.i (w64 (v6+1))) ?_
     refine Oa (.i (w64 (v6+1))) ?_
     refine Ni ?_
     exact za0 (v8,w64 (v6+1)) (Nat.lt_succ_self _) (.k (.k (.k (.k (.k .nil))))) ⟨(hS.keep [true] rfl).up (by omega),hM⟩
    ·refine zan ?_
     refine Sq ?_
     refine Rg 1 ?_
     refine Oa (.i 0) ?_
     refine Ni ?_
     refine Ws ?_
     refine zan ?_
     refine zbg (V:=(List Int)×Int) (fun v=>[(1,.ep (Box.cells a0)),(4,.i r1.1),(6,.sl .no 1 (r3.map (cL 1 cI))),(7,.sl (.id (g+3+7+2+3+1)) 1 (v.1.map cI)),(8,.i v6),(9,.i v.2)]) (fun v m4 H' g'=>St (·<g) H0 [(g+3+7+2+3+1,.row 3 v.1.length)] H' g'/\zbN n (za7 n a0 r1 r3 m2) a0 r1 r3 v6 m4 v.1 v.2=some r) (n:=n) (v5,0) (.k (.k (.k (.k (.k (.k .nil)))))) ⟨(hS.keep [true] rfl).up (by omega),hM⟩ ?_
     rintro ⟨v9,v10⟩ m4 H g4 ⟨hS,hM⟩
     obtain _ | m4:=m4
     ·exact nomatch (show none=some _ from hM)
     change wpA _ _ _ _ (Fr.of [(1,.ep (Box.cells a0)),(4,.i r1.1),(6,.sl .no 1 (r3.map (cL 1 cI))),(7,.sl (.id (g+3+7+2+3+1)) 1 (v9.map cI)),(8,.i v6),(9,.i v10)]) _ _
     replace hS:St (·<g) H0 [(g+3+7+2+3+1,.row 3 v9.length)] H g4:=hS
     replace hM:zfs n (za7 n a0 r1 r3 m2) a0 r1 r3 v6 (zbN n (za7 n a0 r1 r3 m2) a0 r1 r3 v6 m4) v9 v10=some r:=hM
     refine Sq ?_
     refine Sq ?_
     refine Rg 4 ?_
     refine Om (.i v10) ?_
     refine Om (.sl .no 1 (r3.map (cL 1 cI))) ?_
     refine zbf (n:=r3.length) (by decide) rfl (List.length_map _) zkd ?_
     refine Oi (.b (decide (v10<(r3.length:Int)))) ?_
     refine Ni ?_
     refine Ws ?_
     rcases bft (decide (v10<(r3.length:Int))) with hb11 | hb11
     ·replace hM:=ifT hM hb11
      refine Ct hb11 ?_
      refine zav ?_
      refine Ws ?_
      refine Sq ?_
      refine zan ?_
      refine zaR (J:=Bool) (fun j=>[(1,.ep (Box.cells a0)),(4,.i r1.1),(6,.sl .no 1 (r3.map (cL 1 cI))),(7,.sl (.id (g+3+7+2+3+1)) 1 (v9.map cI)),(8,.i v6),(9,.i v10),(51,.b j)]) (fun j H' g'=>St (·<g) H0 [(g+3+7+2+3+1,.row 3 v9.length)] H' g'/\ze8 (za7 n a0 r1 r3 m2) (zbN n (za7 n a0 r1 r3 m2) a0 r1 r3 v6 m4) v6 v9 v10 j=some r) ?_ ?_
      ·rintro v12 H g5 ⟨hS,hM⟩
       change wpA _ _ _ _ (Fr.of [(1,.ep (Box.cells a0)),(4,.i r1.1),(6,.sl .no 1 (r3.map (cL 1 cI))),(7,.sl (.id (g+3+7+2+3+1)) 1 (v9.map cI)),(8,.i v6),(9,.i v10),(51,.b v12)]) _ _
       replace hS:St (·<g) H0 [(g+3+7+2+3+1,.row 3 v9.length)] H g5:=hS
       replace hM:ze8 (za7 n a0 r1 r3 m2) (zbN n (za7 n a0 r1 r3 m2) a0 r1 r3 v6 m4) v6 v9 v10 v12=some r:=hM
       rcases bft v12 with hb13 | hb13
       ·replace hM:=ifT hM hb13
        refine Ct hb13 ?_
        refine Sq ?_
        refine Rg 5 ?_
        refine Om (.sl (.id (g+3+7+2+3+1)) 1 (v9.map cI)) ?_
        refine Om (.i v6) ?_
        refine zaU (es:=[[.i v6]]) hS (by decide) zaq zbc rfl za9 rfl (by decide) (by omega) fun H hS=>?_
        obtain ⟨l14,hl14,hM⟩:=zaf hM
        refine zcp (xs:=v9) (ys:=([v6]:List Int)) (zs:=l14) (f:=cI) (L':=[(g5+2,.row 3 1),(g+3+7+2+3+1,.row 3 l14.length)]) 1 hS (by decide) rfl rfl rfl rfl .no zaq zbc za9 hl14 rfl fun H hS=>?_
        refine Oa (.sl (.id (g+3+7+2+3+1)) 1 (l14.map cI)) ?_
        refine Ni ?_
        replace hS:=hS.keep (L':=[(g+3+7+2+3+1,.row 3 l14.length)]) [false,true] rfl
        refine Ws ?_
        refine zbb ?_
        refine zl0 (by decide) ?_
        refine zam ?_
        refine zaj ?_
        refine zap ?_
        refine zag ?_
        exact zak l14 (.k (.k (.k (.k (.k .nil))))) ⟨(hS.keep [true] rfl).up (by omega),hM⟩
       ·replace hM:=ifF hM hb13
        refine Cf hb13 ?_
        refine zav ?_
        refine zag ?_
        refine Ws ?_
        refine Rg 3 ?_
        refine Om (.i v10) ?_
        refine Oi (.i (w64 (v10+1))) ?_
        refine Oa (.i (w64 (v10+1))) ?_
        refine Ni ?_
        exact za0 (v9,w64 (v10+1)) (Nat.lt_succ_self _) (.k (.k (.k (.k (.k (.k .nil)))))) ⟨(hS.keep [true] rfl).up (by omega),hM⟩
      ·have hS0:=hS
       refine zb7 (n:=19) rfl (by kernel_rfl) ?_
       refine Om (.sl .no 1 (r3.map (cL 1 cI))) ?_
       refine Om (.i v10) ?_
       obtain ⟨x15,hx15,hM⟩:=zaf hM
       refine zaG (xs:=r3) (f:=(cL 1 cI)) (z:=v10) (u:=x15) (by decide) rfl rfl ze3 hx15 ?_
       refine Olp (.sl .no 1 (x15.map cI)) zao zaB ?_
       refine Om (.i v6) ?_
       obtain ⟨x16,hx16,hM⟩:=zaf hM
       refine zaG (xs:=x15) (f:=cI) (z:=v6) (u:=x16) (by decide) rfl rfl zaq hx16 ?_
       refine Olp (.i x16) zah zas ?_
       refine Oi (.b (decide (x16>0))) ?_
       refine Om (.b (decide (x16>0))) ?_
       rcases bft (decide (x16>0)) with hb17 | hb17
       ·replace hM:=ifT hM hb17
        refine Oy (want:=true) hb17 ?_
        refine Of ((Box.cells a0)) zba ?_
        refine Oy (want:=true) hb17 ?_
        refine Olg (.agg (Wheel.cells a0.Wheel)) zbt ?_
        refine Oy (want:=true) hb17 ?_
        refine Om (.sl .no 1 (r3.map (cL 1 cI))) ?_
        refine Oy (want:=true) hb17 ?_
        refine Om (.i v10) ?_
        refine Oy (want:=true) hb17 ?_
        obtain ⟨x18,hx18,hM⟩:=zaf hM
        refine zaG (xs:=r3) (f:=(cL 1 cI)) (z:=v10) (u:=x18) (by decide) rfl rfl ze3 hx18 ?_
        refine Oy (want:=true) hb17 ?_
        refine Olp (.sl .no 1 (x18.map cI)) zao zaB ?_
        refine Oy (want:=true) hb17 ?_
        obtain ⟨r19,hr19,hM⟩:=zaf hM
        refine zat (bs:=[.agg (Wheel.cells a0.Wheel),.sl .no 1 (x18.map cI)]) (by decide) rfl rfl ((zes hr19).le (.k (.k .nil))) ?_
        refine Oy (want:=true) hb17 ?_
        refine Om (.i r1.1) ?_
        refine Oy (want:=true) hb17 ?_
        refine Oi (.b (r19==r1.1)) ?_
        refine Pt (.b (r19==r1.1)) hb17 ?_
        refine Ni ?_
        exact zak (r19==r1.1) (.k (.k (.k (.k (.k (.k (.k .nil))))))) ⟨(hS.keep [true] rfl).up (by omega),hM⟩
       ·replace hM:=ifF hM hb17
        refine On (want:=true) hb17 ?_
        refine On (want:=true) hb17 ?_
        refine On (want:=true) hb17 ?_
        refine On (want:=true) hb17 ?_
        refine On (want:=true) hb17 ?_
        refine On (want:=true) hb17 ?_
        refine On (want:=true) hb17 ?_
        refine On (want:=true) hb17 ?_
        refine On (want:=true) hb17 ?_
        refine Pf (.b false) hb17 ?_
        refine Ni ?_
        exact zak false (.k (.k (.k (.k (.k (.k (.k .nil))))))) ⟨(hS.keep [true] rfl).up (by omega),hM⟩
     ·replace hM:=ifF hM hb11
      refine Cf hb11 ?_
      refine zbb ?_
      refine zam ?_
      refine zaj ?_
      refine zap ?_
      refine zag ?_
      exact zak v9 (.k (.k (.k (.k (.k .nil))))) ⟨(hS.keep [true] rfl).up (by omega),hM⟩
   ·replace hM:=ifF hM hb7
    refine Cf hb7 ?_
    refine zbb ?_
    refine zam ?_
    refine zaj ?_
    refine zap ?_
    exact zak v5 (.k .nil) ⟨(hS.keep [true] rfl).up (by omega),hM⟩
theorem zk1 {n:Nat} {a0:Box} {r:(List Int)×(List Int)×Int} (hM:zc6 n a0=some r):zaC Tryz.prog 12 [.agg (Box.cells a0)] (.tup [.sl .no 1 (r.1.map cI),.sl .no 1 (r.2.1.map cI),.i r.2.2]):=by
 refine zal mixed Tryz.func12 rfl (by decide) Tryz.ntmps12 (by simp) ?pure fun H0 g hf=>?_
 case pure=>exact .tup _ (zab (.sl _ _ (zaw (fun x=>(zab (.v _) zaE)))) (zab (.sl _ _ (zaw (fun x=>(zab (.v _) zaE)))) (zab (.v _) zaE)))
 rw [zai]
 change wpA _ _ _ _ (Fr.of [(0,.agg (Box.cells a0))]) H0 g
 have hS:=St.start hf
 refine Sq ?_
 refine Rg 4 ?_
 refine zcu (v:=.agg (Box.cells a0)) (cs:=(Box.cells a0)) hS (by decide) rfl rfl (by omega) fun H hS=>?_
 refine Oa (.sl .nil 0 []) ?_
 refine Oa (.sl .nil 0 []) ?_
 refine Oa (.i 0) ?_
 refine Ni ?_
 refine za8 (L':=[]) 0 1 hS rfl rfl rfl fun H hS=>?_
 refine Ws ?_
 refine Sq ?_
 refine Rg 9 ?_
 refine Olg (.agg (Box.cells a0)) za4 ?_
 obtain ⟨r1,hr1,hM⟩:=zaf hM
 refine zat (bs:=[.agg (Box.cells a0)]) (by decide) rfl rfl ((zgU hr1).le (.k .nil)) ?_
 refine Om (.tup [pA Box_.cells r1.1,.sl .no 2 (r1.2.1.map Gap_.cells),.i r1.2.2]) ?_
 refine Ox (pA Box_.cells r1.1) ?_
 refine Ox (.sl .no 2 (r1.2.1.map Gap_.cells)) ?_
 refine Ox (.i r1.2.2) ?_
 refine Oa (pA Box_.cells r1.1) ?_
 refine Oa (.sl .no 2 (r1.2.1.map Gap_.cells)) ?_
 refine Oa (.i r1.2.2) ?_
 refine Ni ?_
 refine Ws ?_
 refine Sq ?_
 refine Sq ?_
 refine Rg 2 ?_
 refine Om (.i r1.2.2) ?_
 refine Oi (.b (r1.2.2 != 0)) ?_
 refine Ni ?_
 refine Ws ?_
 rcases bft (r1.2.2 != 0) with hb2 | hb2
 ·replace hM:=ifT hM hb2
  refine Ct hb2 ?_
  refine Sq ?_
  refine Rg 4 ?_
  refine Om (.i r1.2.2) ?_
  refine Oa (.sl .nil 0 []) ?_
  refine Oa (.sl .nil 0 []) ?_
  refine Oa (.i r1.2.2) ?_
  refine Ni ?_
  refine Ws ?_
  refine zaM ?_
  refine zar ?_
  refine zaX (x:=.tup [.sl .nil 0 [],.sl .nil 0 [],.i r1.2.2]) (f:=fun r=>.tup [.sl .no 1 (r.1.map cI),.sl .no 1 (r.2.1.map cI),.i r.2.2]) (.inr rfl) ?_ (.tupL (.cons (.sl0 .nil 1 0) (.cons (.sl0 .nil 1 0) (.k .nil)))) (Option.some.inj hM) hS
  exact (zhj (zae (x:=.sl .nil 0 []) rfl) (zae (x:=.sl .nil 0 []) rfl) (zae (x:=.i r1.2.2) rfl))
 ·replace hM:=ifF hM hb2
  refine Cf hb2 ?_
  refine zav ?_
  refine Ws ?_
  refine Sq ?_
  have hS0:=hS
  refine zb7 (n:=11) rfl (by kernel_rfl) ?_
  refine Om (.sl .no 2 (r1.2.1.map Gap_.cells)) ?_
  obtain ⟨x3,hx3,hM⟩:=zaf hM
  refine zaG (xs:=r1.2.1) (f:=Gap_.cells) (z:=0) (u:=x3) (by decide) rfl rfl zgT hx3 ?_
  refine Of ((Gap_.cells x3)) ziS ?_
  refine Olp (.sl .no 1 (x3.purse.map cI)) zao zaB ?_
  refine Om (.sl .no 2 (r1.2.1.map Gap_.cells)) ?_
  obtain ⟨x4,hx4,hM⟩:=zaf hM
  refine zaG (xs:=r1.2.1) (f:=Gap_.cells) (z:=0) (u:=x4) (by decide) rfl rfl zgT hx4 ?_
  refine Of ((Gap_.cells x4)) ztt ?_
  refine Olp (.sl .no 1 (x4.acts.map cI)) zao zaB ?_
  refine Oa (.sl .no 1 (x3.purse.map cI)) ?_
  refine Oa (.sl .no 1 (x4.acts.map cI)) ?_
  refine Oa (.i 0) ?_
  refine Ni ?_
  refine ze0 [(2,.sl .no 1 (x3.purse.map cI)),(3,.sl .no 1 (x4.acts.map cI)),(4,.i 0)] (.k (.k (.k .nil))) ?_
  refine zaM ?_
  refine zaX (x:=.tup [.sl .no 1 (x3.purse.map cI),.sl .no 1 (x4.acts.map cI),.i 0]) (f:=fun r=>.tup [.sl .no 1 (r.1.map cI),.sl .no 1 (r.2.1.map cI),.i r.2.2]) (.inr rfl) ?_ (.refl _) (Option.some.inj hM) hS
  exact (zhj (zae (x:=.sl .no 1 (x3.purse.map cI)) rfl) (zae (x:=.sl .no 1 (x4.acts.map cI)) rfl) (zae (x:=.i 0) rfl))
theorem zo4 {n:Nat} {a0:Box} {a1:Box} {r:Bool} (hM:zjd n a0 a1=some r):zaC Tryz.prog 14 [.agg (Box.cells a0),.agg (Box.cells a1)] (.b r):=by
 refine zal mixed Tryz.func14 rfl (by decide) Tryz.ntmps14 (by simp) ?pure fun H0 g hf=>?_
 case pure=>exact .v _
 rw [zai]
 change wpA _ _ _ _ (Fr.of [(0,.agg (Box.cells a0)),(1,.agg (Box.cells a1))]) H0 g
 have hS:=St.start hf
 refine Sq ?_
 refine Rg 3 ?_
 refine zcu (v:=.agg (Box.cells a0)) (cs:=(Box.cells a0)) hS (by decide) rfl rfl (by omega) fun H hS=>?_
 refine zcu (v:=.agg (Box.cells a1)) (cs:=(Box.cells a1)) hS (by decide) rfl rfl (by omega) fun H hS=>?_
 refine Oa (.b false) ?_
 refine Ni ?_
 refine za8 (L':=[(g+1,.cells (Box.cells a1))]) 1 2 hS rfl rfl rfl fun H hS=>?_
 refine za8 (L':=[]) 0 3 hS rfl rfl rfl fun H hS=>?_
 refine Ws ?_
 refine zaR (J:=Bool) (fun j=>[(4,.b j)]) (fun j H' g'=>St (·<g) H0 [] H' g'/\zce j=some r) ?_ ?_
 ·rintro v1 H g1 ⟨hS,hM⟩
  change wpA _ _ _ _ (Fr.of [(4,.b v1)]) _ _
  replace hS:St (·<g) H0 [] H g1:=hS
  replace hM:zce v1=some r:=hM
  refine zaM ?_
  refine zaX (x:=.b v1) (f:=fun r=>.b r) (.inr rfl) ?_ (.refl _) (Option.some.inj hM) hS
  exact (zau (zae (x:=.b v1) rfl))
 ·refine Rg 61 ?_
  refine Of ((Box.cells a0)) zba ?_
  refine Of ((Box.cells a0)) zdl ?_
  refine Olp (.i a0.Wheel.Round) zah zas ?_
  refine Of ((Box.cells a1)) zba ?_
  refine Of ((Box.cells a1)) zdl ?_
  refine Olp (.i a1.Wheel.Round) zah zas ?_
  refine Oi (.b (a0.Wheel.Round==a1.Wheel.Round)) ?_
  refine Om (.b (a0.Wheel.Round==a1.Wheel.Round)) ?_
  rcases bft (a0.Wheel.Round==a1.Wheel.Round) with hb2 | hb2
  ·replace hM:=ifT hM hb2
   refine Oy (want:=true) hb2 ?_
   refine Of ((Box.cells a0)) zba ?_
   refine Oy (want:=true) hb2 ?_
   refine Of ((Box.cells a0)) zfY ?_
   refine Oy (want:=true) hb2 ?_
   refine Olp (.sl .no 1 (a0.Wheel.Notches.map cI)) zao zaB ?_
   refine Oy (want:=true) hb2 ?_
   refine Of ((Box.cells a1)) zba ?_
   refine Oy (want:=true) hb2 ?_
   refine Of ((Box.cells a1)) zfY ?_
   refine Oy (want:=true) hb2 ?_
   refine Olp (.sl .no 1 (a1.Wheel.Notches.map cI)) zao zaB ?_
   refine Oy (want:=true) hb2 ?_
   obtain ⟨r3,hr3,hM⟩:=zaf hM
   refine zat (bs:=[.sl .no 1 (a0.Wheel.Notches.map cI),.sl .no 1 (a1.Wheel.Notches.map cI)]) (by decide) rfl rfl ((zcl hr3).le (.k (.k .nil))) ?_
   refine Pt (.b r3) hb2 ?_
   refine Om (.b r3) ?_
   rcases bft r3 with hb4 | hb4
   ·replace hM:=ifT hM hb4
    refine Oy (want:=true) hb4 ?_
    refine Of ((Box.cells a0)) zba ?_
    refine Oy (want:=true) hb4 ?_
    refine Of ((Box.cells a0)) zcr ?_
    refine Oy (want:=true) hb4 ?_
    refine Olp (.sl .no 1 (a0.Wheel.Coins.map cI)) zao zaB ?_
    refine Oy (want:=true) hb4 ?_
    refine Of ((Box.cells a1)) zba ?_
    refine Oy (want:=true) hb4 ?_
    refine Of ((Box.cells a1)) zcr ?_
    refine Oy (want:=true) hb4 ?_
    refine Olp (.sl .no 1 (a1.Wheel.Coins.map cI)) zao zaB ?_
    refine Oy (want:=true) hb4 ?_
    obtain ⟨r5,hr5,hM⟩:=zaf hM
    refine zat (bs:=[.sl .no 1 (a0.Wheel.Coins.map cI),.sl .no 1 (a1.Wheel.Coins.map cI)]) (by decide) rfl rfl ((zcl hr5).le (.k (.k .nil))) ?_
    refine Pt (.b r5) hb4 ?_
    refine Om (.b r5) ?_
    rcases bft r5 with hb6 | hb6
    ·replace hM:=ifT hM hb6
     refine Oy (want:=true) hb6 ?_
     refine Of ((Box.cells a0)) zch ?_
     refine Oy (want:=true) hb6 ?_
     refine Olp (.sl .no 1 (a0.Found.map cI)) zao zaB ?_
     refine Oy (want:=true) hb6 ?_
     refine Of ((Box.cells a1)) zch ?_
     refine Oy (want:=true) hb6 ?_
     refine Olp (.sl .no 1 (a1.Found.map cI)) zao zaB ?_
     refine Oy (want:=true) hb6 ?_
     obtain ⟨r7,hr7,hM⟩:=zaf hM
     refine zat (bs:=[.sl .no 1 (a0.Found.map cI),.sl .no 1 (a1.Found.map cI)]) (by decide) rfl rfl ((zcl hr7).le (.k (.k .nil))) ?_
     refine Pt (.b r7) hb6 ?_
     refine Om (.b r7) ?_
     rcases bft r7 with hb8 | hb8
     ·replace hM:=ifT hM hb8
      refine Oy (want:=true) hb8 ?_
      refine Of ((Box.cells a0)) ze9 ?_
      refine Oy (want:=true) hb8 ?_
      refine Olp (.sl .no 1 (a0.Marked.map cI)) zao zaB ?_
      refine Oy (want:=true) hb8 ?_
      refine Of ((Box.cells a1)) ze9 ?_
      refine Oy (want:=true) hb8 ?_
      refine Olp (.sl .no 1 (a1.Marked.map cI)) zao zaB ?_
      refine Oy (want:=true) hb8 ?_
      obtain ⟨r9,hr9,hM⟩:=zaf hM
      refine zat (bs:=[.sl .no 1 (a0.Marked.map cI),.sl .no 1 (a1.Marked.map cI)]) (by decide) rfl rfl ((zcl hr9).le (.k (.k .nil))) ?_
      refine Pt (.b r9) hb8 ?_
      refine Om (.b r9) ?_
      rcases bft r9 with hb10 | hb10
      ·replace hM:=ifT hM hb10
       refine Oy (want:=true) hb10 ?_
       refine Of ((Box.cells a0)) zea ?_
       refine Oy (want:=true) hb10 ?_
       refine Olp (.sl .no 1 (a0.Slugs.map cI)) zao zaB ?_
       refine Oy (want:=true) hb10 ?_
       refine Of ((Box.cells a1)) zea ?_
       refine Oy (want:=true) hb10 ?_
       refine Olp (.sl .no 1 (a1.Slugs.map cI)) zao zaB ?_
       refine Oy (want:=true) hb10 ?_
       obtain ⟨r11,hr11,hM⟩:=zaf hM
       refine zat (bs:=[.sl .no 1 (a0.Slugs.map cI),.sl .no 1 (a1.Slugs.map cI)]) (by decide) rfl rfl ((zcl hr11).le (.k (.k .nil))) ?_
       refine Pt (.b r11) hb10 ?_
       refine Om (.b r11) ?_
       rcases bft r11 with hb12 | hb12
       ·replace hM:=ifT hM hb12
        refine Oy (want:=true) hb12 ?_
        refine Of ((Box.cells a0)) zfZ ?_
        refine Oy (want:=true) hb12 ?_
        refine Olp (.i a0.Plays) zah zas ?_
        refine Oy (want:=true) hb12 ?_
        refine Of ((Box.cells a1)) zfZ ?_
        refine Oy (want:=true) hb12 ?_
        refine Olp (.i a1.Plays) zah zas ?_
        refine Oy (want:=true) hb12 ?_
        refine Oi (.b (a0.Plays==a1.Plays)) ?_
        refine Pt (.b (a0.Plays==a1.Plays)) hb12 ?_
        refine Om (.b (a0.Plays==a1.Plays)) ?_
        rcases bft (a0.Plays==a1.Plays) with hb13 | hb13
        ·replace hM:=ifT hM hb13
         refine Oy (want:=true) hb13 ?_
         refine Of ((Box.cells a0)) zh3 ?_
         refine Oy (want:=true) hb13 ?_
         refine Olp (.i a0.Skips) zah zas ?_
         refine Oy (want:=true) hb13 ?_
         refine Of ((Box.cells a1)) zh3 ?_
         refine Oy (want:=true) hb13 ?_
         refine Olp (.i a1.Skips) zah zas ?_
         refine Oy (want:=true) hb13 ?_
         refine Oi (.b (a0.Skips==a1.Skips)) ?_
         refine Pt (.b (a0.Skips==a1.Skips)) hb13 ?_
         refine Oa (.b (a0.Skips==a1.Skips)) ?_
         refine Ni ?_
         exact zak (a0.Skips==a1.Skips) (.k .nil) ⟨(hS.keep [] rfl).up (by omega),hM⟩
        ·replace hM:=ifF hM hb13
         refine On (want:=true) hb13 ?_
         refine On (want:=true) hb13 ?_
         refine On (want:=true) hb13 ?_
         refine On (want:=true) hb13 ?_
         refine On (want:=true) hb13 ?_
         refine Pf (.b false) hb13 ?_
         refine Oa (.b false) ?_
         refine Ni ?_
         exact zak false (.k .nil) ⟨(hS.keep [] rfl).up (by omega),hM⟩
       ·replace hM:=ifF hM hb12
        refine On (want:=true) hb12 ?_
        refine On (want:=true) hb12 ?_
        refine On (want:=true) hb12 ?_
        refine On (want:=true) hb12 ?_
        refine On (want:=true) hb12 ?_
        refine Pf (.b false) hb12 ?_
        refine Om (.b false) ?_
        refine Og ?_
        refine Og ?_
        refine Og ?_
        refine Og ?_
        refine Og ?_
        refine zaY (v:=.b false) (e:=false) (by decide) rfl rfl rfl ?_
        refine Oa (.b false) ?_
        refine Ni ?_
        exact zak false (.k .nil) ⟨(hS.keep [] rfl).up (by omega),hM⟩
      ·replace hM:=ifF hM hb10
       refine On (want:=true) hb10 ?_
       refine On (want:=true) hb10 ?_
       refine On (want:=true) hb10 ?_
       refine On (want:=true) hb10 ?_
       refine On (want:=true) hb10 ?_
       refine Pf (.b false) hb10 ?_
       refine Om (.b false) ?_
       refine Og ?_
       refine Og ?_
       refine Og ?_
       refine Og ?_
       refine Og ?_
       refine zaY (v:=.b false) (e:=false) (by decide) rfl rfl rfl ?_
       refine Om (.b false) ?_
       refine Og ?_
       refine Og ?_
       refine Og ?_
       refine Og ?_
       refine Og ?_
       refine zaY (v:=.b false) (e:=false) (by decide) rfl rfl rfl ?_
       refine Oa (.b false) ?_
       refine Ni ?_
       exact zak false (.k .nil) ⟨(hS.keep [] rfl).up (by omega),hM⟩
     ·replace hM:=ifF hM hb8
      refine On (want:=true) hb8 ?_
      refine On (want:=true) hb8 ?_
      refine On (want:=true) hb8 ?_
      refine On (want:=true) hb8 ?_
      refine On (want:=true) hb8 ?_
      refine Pf (.b false) hb8 ?_
      refine Om (.b false) ?_
      refine Og ?_
      refine Og ?_
      refine Og ?_
      refine Og ?_
      refine Og ?_
      refine zaY (v:=.b false) (e:=false) (by decide) rfl rfl rfl ?_
      refine Om (.b false) ?_
      refine Og ?_
      refine Og ?_
      refine Og ?_
      refine Og ?_
      refine Og ?_
      refine zaY (v:=.b false) (e:=false) (by decide) rfl rfl rfl ?_
      refine Om (.b false) ?_
      refine Og ?_
      refine Og ?_
      refine Og ?_
      refine Og ?_
      refine Og ?_
      refine zaY (v:=.b false) (e:=false) (by decide) rfl rfl rfl ?_
      refine Oa (.b false) ?_
      refine Ni ?_
      exact zak false (.k .nil) ⟨(hS.keep [] rfl).up (by omega),hM⟩
    ·replace hM:=ifF hM hb6
     refine On (want:=true) hb6 ?_
     refine On (want:=true) hb6 ?_
     refine On (want:=true) hb6 ?_
     refine On (want:=true) hb6 ?_
     refine On (want:=true) hb6 ?_
     refine Pf (.b false) hb6 ?_
     refine Om (.b false) ?_
     refine Og ?_
     refine Og ?_
     refine Og ?_
     refine Og ?_
     refine Og ?_
     refine zaY (v:=.b false) (e:=false) (by decide) rfl rfl rfl ?_
     refine Om (.b false) ?_
     refine Og ?_
     refine Og ?_
     refine Og ?_
     refine Og ?_
     refine Og ?_
     refine zaY (v:=.b false) (e:=false) (by decide) rfl rfl rfl ?_
     refine Om (.b false) ?_
     refine Og ?_
     refine Og ?_
     refine Og ?_
     refine Og ?_
     refine Og ?_
     refine zaY (v:=.b false) (e:=false) (by decide) rfl rfl rfl ?_
     refine Om (.b false) ?_
     refine Og ?_
     refine Og ?_
     refine Og ?_
     refine Og ?_
     refine Og ?_
     refine zaY (v:=.b false) (e:=false) (by decide) rfl rfl rfl ?_
     refine Oa (.b false) ?_
     refine Ni ?_
     exact zak false (.k .nil) ⟨(hS.keep [] rfl).up (by omega),hM⟩
   ·replace hM:=ifF hM hb4
    refine On (want:=true) hb4 ?_
    refine On (want:=true) hb4 ?_
    refine On (want:=true) hb4 ?_
    refine On (want:=true) hb4 ?_
    refine On (want:=true) hb4 ?_
    refine On (want:=true) hb4 ?_
    refine On (want:=true) hb4 ?_
    refine Pf (.b false) hb4 ?_
    refine Om (.b false) ?_
    refine Og ?_
    refine Og ?_
    refine Og ?_
    refine Og ?_
    refine Og ?_
    refine zaY (v:=.b false) (e:=false) (by decide) rfl rfl rfl ?_
    refine Om (.b false) ?_
    refine Og ?_
    refine Og ?_
    refine Og ?_
    refine Og ?_
    refine Og ?_
    refine zaY (v:=.b false) (e:=false) (by decide) rfl rfl rfl ?_
    refine Om (.b false) ?_
    refine Og ?_
    refine Og ?_
    refine Og ?_
    refine Og ?_
    refine Og ?_
    refine zaY (v:=.b false) (e:=false) (by decide) rfl rfl rfl ?_
    refine Om (.b false) ?_
    refine Og ?_
    refine Og ?_
    refine Og ?_
    refine Og ?_
    refine Og ?_
    refine zaY (v:=.b false) (e:=false) (by decide) rfl rfl rfl ?_
    refine Om (.b false) ?_
    refine Og ?_
    refine Og ?_
    refine Og ?_
    refine Og ?_
    refine Og ?_
    refine zaY (v:=.b false) (e:=false) (by decide) rfl rfl rfl ?_
    refine Oa (.b false) ?_
    refine Ni ?_
    exact zak false (.k .nil) ⟨(hS.keep [] rfl).up (by omega),hM⟩
  ·replace hM:=ifF hM hb2
   refine On (want:=true) hb2 ?_
   refine On (want:=true) hb2 ?_
   refine On (want:=true) hb2 ?_
   refine On (want:=true) hb2 ?_
   refine On (want:=true) hb2 ?_
   refine On (want:=true) hb2 ?_
   refine On (want:=true) hb2 ?_
   refine Pf (.b false) hb2 ?_
   refine Om (.b false) ?_
   refine Og ?_
   refine Og ?_
   refine Og ?_
   refine Og ?_
   refine Og ?_
   refine Og ?_
   refine Og ?_
   refine zaY (v:=.b false) (e:=false) (by decide) rfl rfl rfl ?_
   refine Om (.b false) ?_
   refine Og ?_
   refine Og ?_
   refine Og ?_
   refine Og ?_
   refine Og ?_
   refine zaY (v:=.b false) (e:=false) (by decide) rfl rfl rfl ?_
   refine Om (.b false) ?_
   refine Og ?_
   refine Og ?_
   refine Og ?_
   refine Og ?_
   refine Og ?_
   refine zaY (v:=.b false) (e:=false) (by decide) rfl rfl rfl ?_
   refine Om (.b false) ?_
   refine Og ?_
   refine Og ?_
   refine Og ?_
   refine Og ?_
   refine Og ?_
   refine zaY (v:=.b false) (e:=false) (by decide) rfl rfl rfl ?_
   refine Om (.b false) ?_
   refine Og ?_
   refine Og ?_
   refine Og ?_
   refine Og ?_
   refine Og ?_
   refine zaY (v:=.b false) (e:=false) (by decide) rfl rfl rfl ?_
   refine Om (.b false) ?_
   refine Og ?_
   refine Og ?_
   refine Og ?_
   refine Og ?_
   refine Og ?_
   refine zaY (v:=.b false) (e:=false) (by decide) rfl rfl rfl ?_
   refine Oa (.b false) ?_
   refine Ni ?_
   exact zak false (.k .nil) ⟨(hS.keep [] rfl).up (by omega),hM⟩
theorem zk2 {n:Nat} {a0:Box} {a1:List Int} {r:Bool} (hM:zfV n a0 a1=some r):zaC Tryz.prog 36 [.agg (Box.cells a0),.sl .no 1 (a1.map cI)] (.b r):=by
 refine zal mixed Tryz.func36 rfl (by decide) Tryz.ntmps36 (by simp) ?pure fun H0 g hf=>?_
 case pure=>exact .v _
 rw [zai]
 change wpA _ _ _ _ (Fr.of [(0,.agg (Box.cells a0)),(1,.sl .no 1 (a1.map cI))]) H0 g
 have hS:=St.start hf
 refine Sq ?_
 refine Rg 2 ?_
 refine zcu (v:=.agg (Box.cells a0)) (cs:=(Box.cells a0)) hS (by decide) rfl rfl (by omega) fun H hS=>?_
 refine Oa (.b false) ?_
 refine Ni ?_
 refine za8 (L':=[]) 0 2 hS rfl rfl rfl fun H hS=>?_
 refine Ws ?_
 refine Sq ?_
 refine Sq ?_
 refine Rg 6 ?_
 refine Om (.sl .no 1 (a1.map cI)) ?_
 refine zbf (n:=a1.length) (by decide) rfl (List.length_map _) zaz ?_
 refine Of ((Box.cells a0)) zch ?_
 refine Olp (.sl .no 1 (a0.Found.map cI)) zao zaB ?_
 refine zbf (n:=a0.Found.length) (by decide) rfl (List.length_map _) zaz ?_
 refine Oi (.b ((a1.length:Int) != (a0.Found.length:Int))) ?_
 refine Ni ?_
 refine Ws ?_
 rcases bft ((a1.length:Int) != (a0.Found.length:Int)) with hb1 | hb1
 ·replace hM:=ifT hM hb1
  refine Ct hb1 ?_
  refine Sq ?_
  refine Rg 1 ?_
  refine Oa (.b false) ?_
  refine Ni ?_
  refine Ws ?_
  refine zaM ?_
  refine zar ?_
  refine zaX (x:=.b false) (f:=fun r=>.b r) (.inr rfl) ?_ (.refl _) (Option.some.inj hM) hS
  exact (zau (zae (x:=.b false) rfl))
 ·replace hM:=ifF hM hb1
  refine Cf hb1 ?_
  refine zav ?_
  refine Ws ?_
  refine zaR (J:=Unit) (fun j=>[(1,.sl .no 1 (a1.map cI))]) (fun j H' g'=>St (·<g) H0 [] H' g'/\zer n a1=some r) ?_ ?_
  ·rintro _ H g1 ⟨hS,hM⟩
   change wpA _ _ _ _ (Fr.of [(1,.sl .no 1 (a1.map cI))]) _ _
   replace hS:St (·<g) H0 [] H g1:=hS
   replace hM:zer n a1=some r:=hM
   refine Sq ?_
   refine Rg 4 ?_
   refine Om (.sl .no 1 (a1.map cI)) ?_
   obtain ⟨r2,hr2,hM⟩:=zaf hM
   refine zat (bs:=[.sl .no 1 (a1.map cI)]) (by decide) rfl rfl ((zf1 hr2).le (.k .nil)) ?_
   refine Oi (.b (decide (r2<=2))) ?_
   refine Oa (.b (decide (r2<=2))) ?_
   refine Ni ?_
   refine Ws ?_
   refine zaM ?_
   refine zaX (x:=.b (decide (r2<=2))) (f:=fun r=>.b r) (.inr rfl) ?_ (.refl _) (Option.some.inj hM) hS
   exact (zau (zae (x:=.b (decide (r2<=2))) rfl))
  ·refine Sq ?_
   refine Rg 1 ?_
   refine Oa (.i 0) ?_
   refine Ni ?_
   refine Ws ?_
   refine zan ?_
   refine zbg (V:=Int) (fun v=>[(1,.sl .no 1 (a1.map cI)),(5,.i v)]) (fun v m2 H' g'=>St (·<g) H0 [] H' g'/\zcf n a1 m2 v=some r) (n:=n) 0 (.k (.k .nil)) ⟨(hS.keep [] rfl).up (by omega),hM⟩ ?_
   rintro v3 m2 H g2 ⟨hS,hM⟩
   obtain _ | m2:=m2
   ·exact nomatch (show none=some _ from hM)
   change wpA _ _ _ _ (Fr.of [(1,.sl .no 1 (a1.map cI)),(5,.i v3)]) _ _
   replace hS:St (·<g) H0 [] H g2:=hS
   replace hM:zdG n a1 (zcf n a1 m2) v3=some r:=hM
   refine Sq ?_
   refine Sq ?_
   refine Rg 4 ?_
   refine Om (.i v3) ?_
   refine Om (.sl .no 1 (a1.map cI)) ?_
   refine zbf (n:=a1.length) (by decide) rfl (List.length_map _) zaz ?_
   refine Oi (.b (decide (v3<(a1.length:Int)))) ?_
   refine Ni ?_
   refine Ws ?_
   rcases bft (decide (v3<(a1.length:Int))) with hb4 | hb4
   ·replace hM:=ifT hM hb4
    refine Ct hb4 ?_
    refine zav ?_
    refine Ws ?_
    refine Sq ?_
    refine zan ?_
    refine Sq ?_
    refine Rg 6 ?_
    refine Om (.sl .no 1 (a1.map cI)) ?_
    refine Om (.i v3) ?_
    obtain ⟨x5,hx5,hM⟩:=zaf hM
    refine zaG (xs:=a1) (f:=cI) (z:=v3) (u:=x5) (by decide) rfl rfl zaq hx5 ?_
    refine Olp (.i x5) zah zas ?_
    obtain ⟨r6,hr6,hM⟩:=zaf hM
    refine zat (bs:=[.i x5,.i 0,.i 2]) (by decide) rfl rfl ((zfb hr6).le (.k (.k (.k .nil)))) ?_
    refine zfw (e:=r6) (by decide) rfl ?_
    refine Ni ?_
    refine Ws ?_
    rcases bft (!r6) with hb7 | hb7
    ·replace hM:=ifT hM hb7
     refine Ct hb7 ?_
     refine Sq ?_
     refine Rg 1 ?_
     refine Oa (.b false) ?_
     refine Ni ?_
     refine Ws ?_
     refine zaM ?_
     refine za5 ?_
     refine zar ?_
     refine zbR ?_
     refine za5 ?_
     refine zct ?_
     refine zaX (x:=.b false) (f:=fun r=>.b r) (.inr rfl) ?_ (.refl _) (Option.some.inj hM) hS
     exact (zau (zae (x:=.b false) rfl))
    ·replace hM:=ifF hM hb7
     refine Cf hb7 ?_
     refine zav ?_
     refine zag ?_
     refine Ws ?_
     refine Rg 3 ?_
     refine Om (.i v3) ?_
     refine Oi (.i (w64 (v3+1))) ?_
     refine Oa (.i (w64 (v3+1))) ?_
     refine Ni ?_
     exact za0 (w64 (v3+1)) (Nat.lt_succ_self _) (.k (.k .nil)) ⟨(hS.keep [] rfl).up (by omega),hM⟩
   ·replace hM:=ifF hM hb4
    refine Cf hb4 ?_
    refine zbb ?_
    refine zam ?_
    refine zaj ?_
    refine zap ?_
    exact zak () (.k .nil) ⟨(hS.keep [] rfl).up (by omega),hM⟩
theorem zp8 {n:Nat} {a0:Wheel} {a1:List Int} {r:(List Int)} (hM:zj6 n a0 a1=some r):zaC Tryz.prog 38 [.agg (Wheel.cells a0),.sl .no 1 (a1.map cI)] (.sl .no 1 (r.map cI)):=by
 refine zal mixed Tryz.func38 rfl (by decide) Tryz.ntmps38 (by simp) ?pure fun H0 g hf=>?_
 case pure=>exact .sl _ _ (zaw (fun x=>(zab (.v _) zaE)))
 rw [zai]
 change wpA _ _ _ _ (Fr.of [(0,.agg (Wheel.cells a0)),(1,.sl .no 1 (a1.map cI))]) H0 g
 have hS:=St.start hf
 refine Sq ?_
 refine Rg 2 ?_
 refine zcu (v:=.agg (Wheel.cells a0)) (cs:=(Wheel.cells a0)) hS (by decide) rfl rfl (by omega) fun H hS=>?_
 refine Oa (.sl .nil 0 []) ?_
 refine Ni ?_
 refine za8 (L':=[]) 0 2 hS rfl rfl rfl fun H hS=>?_
 refine Ws ?_
 refine Sq ?_
 refine Rg 1 ?_
 refine Oa (.sl .nil 0 []) ?_
 refine Ni ?_
 refine zlq [(1,.sl .no 1 (a1.map cI)),(2,.ep (Wheel.cells a0)),(5,.sl (.id (g+2+1)) 1 (([]:List Int).map cI))] 5 1 3 hS (by omega) (by decide) rfl (.k (.k (.k .nil))) fun H hS=>?_
 refine zaR (J:=(List Int)) (fun j=>[(5,.sl (.id (g+2+1)) 1 (j.map cI))]) (fun j H' g'=>St (·<g) H0 [(g+2+1,.row 3 j.length)] H' g'/\zhC j=some r) ?_ ?_
 ·rintro v1 H g1 ⟨hS,hM⟩
  change wpA _ _ _ _ (Fr.of [(5,.sl (.id (g+2+1)) 1 (v1.map cI))]) _ _
  replace hS:St (·<g) H0 [(g+2+1,.row 3 v1.length)] H g1:=hS
  replace hM:zhC v1=some r:=hM
  refine Sq ?_
  refine Rg 2 ?_
  refine Om (.sl (.id (g+2+1)) 1 (v1.map cI)) ?_
  refine Oa (.sl (.id (g+2+1)) 1 (v1.map cI)) ?_
  refine Ni ?_
  refine Ws ?_
  refine zaM ?_
  refine zaX (x:=.sl (.id (g+2+1)) 1 (v1.map cI)) (f:=fun r=>.sl .no 1 (r.map cI)) (.inr rfl) ?_ (.sl _ _ _) (Option.some.inj hM) hS
  exact (zau (zae (x:=.sl (.id (g+2+1)) 1 (v1.map cI)) rfl))
 ·refine Sq ?_
  refine Rg 1 ?_
  refine Oa (.i 0) ?_
  refine Ni ?_
  refine Ws ?_
  refine zan ?_
  refine zbg (V:=(List Int)×Int) (fun v=>[(1,.sl .no 1 (a1.map cI)),(2,.ep (Wheel.cells a0)),(5,.sl (.id (g+2+1)) 1 (v.1.map cI)),(6,.i v.2)]) (fun v m2 H' g'=>St (·<g) H0 [(g+2+1,.row 3 v.1.length)] H' g'/\zbo n a0 a1 m2 v.1 v.2=some r) (n:=n) (([]:List Int),0) (.k (.k (.k (.k .nil)))) ⟨(hS.keep [true] rfl).up (by omega),hM⟩ ?_
  rintro ⟨v2,v3⟩ m2 H g2 ⟨hS,hM⟩
  obtain _ | m2:=m2
  ·exact nomatch (show none=some _ from hM)
  change wpA _ _ _ _ (Fr.of [(1,.sl .no 1 (a1.map cI)),(2,.ep (Wheel.cells a0)),(5,.sl (.id (g+2+1)) 1 (v2.map cI)),(6,.i v3)]) _ _
  replace hS:St (·<g) H0 [(g+2+1,.row 3 v2.length)] H g2:=hS
  replace hM:zgy n a0 a1 (zbo n a0 a1 m2) v2 v3=some r:=hM
  refine Sq ?_
  refine Sq ?_
  refine Rg 5 ?_
  refine Om (.i v3) ?_
  refine Of ((Wheel.cells a0)) zcr ?_
  refine Olp (.sl .no 1 (a0.Coins.map cI)) zao zaB ?_
  refine zbf (n:=a0.Coins.length) (by decide) rfl (List.length_map _) zaz ?_
  refine Oi (.b (decide (v3<(a0.Coins.length:Int)))) ?_
  refine Ni ?_
  refine Ws ?_
  rcases bft (decide (v3<(a0.Coins.length:Int))) with hb4 | hb4
  ·replace hM:=ifT hM hb4
   refine Ct hb4 ?_
   refine zav ?_
   refine Ws ?_
   refine zaR (J:=(List Int)) (fun j=>[(1,.sl .no 1 (a1.map cI)),(2,.ep (Wheel.cells a0)),(5,.sl (.id (g+2+1)) 1 (j.map cI)),(6,.i v3)]) (fun j H' g'=>St (·<g) H0 [(g+2+1,.row 3 j.length)] H' g'/\zhD (zbo n a0 a1 m2) v3 j=some r) ?_ ?_
   ·rintro v5 H g3 ⟨hS,hM⟩
    change wpA _ _ _ _ (Fr.of [(1,.sl .no 1 (a1.map cI)),(2,.ep (Wheel.cells a0)),(5,.sl (.id (g+2+1)) 1 (v5.map cI)),(6,.i v3)]) _ _
    replace hS:St (·<g) H0 [(g+2+1,.row 3 v5.length)] H g3:=hS
    replace hM:zhD (zbo n a0 a1 m2) v3 v5=some r:=hM
    refine Rg 3 ?_
    refine Om (.i v3) ?_
    refine Oi (.i (w64 (v3+1))) ?_
    refine Oa (.i (w64 (v3+1))) ?_
    refine Ni ?_
    exact za0 (v5,w64 (v3+1)) (Nat.lt_succ_self _) (.k (.k (.k (.k .nil)))) ⟨(hS.keep [true] rfl).up (by omega),hM⟩
   ·refine zan ?_
    refine Sq ?_
    refine Rg 1 ?_
    refine Oa (.i 0) ?_
    refine Ni ?_
    refine Ws ?_
    refine zaR (J:=Int) (fun j=>[(1,.sl .no 1 (a1.map cI)),(2,.ep (Wheel.cells a0)),(5,.sl (.id (g+2+1)) 1 (v2.map cI)),(6,.i v3),(7,.i j)]) (fun j H' g'=>St (·<g) H0 [(g+2+1,.row 3 v2.length)] H' g'/\zfF (zbo n a0 a1 m2) v2 v3 j=some r) ?_ ?_
    ·rintro v6 H g4 ⟨hS,hM⟩
     change wpA _ _ _ _ (Fr.of [(1,.sl .no 1 (a1.map cI)),(2,.ep (Wheel.cells a0)),(5,.sl (.id (g+2+1)) 1 (v2.map cI)),(6,.i v3),(7,.i v6)]) _ _
     replace hS:St (·<g) H0 [(g+2+1,.row 3 v2.length)] H g4:=hS
     replace hM:zfF (zbo n a0 a1 m2) v2 v3 v6=some r:=hM
     refine Rg 5 ?_
     refine Om (.sl (.id (g+2+1)) 1 (v2.map cI)) ?_
     refine Om (.i v6) ?_
     refine zaU (es:=[[.i v6]]) hS (by decide) zaq zbc rfl za9 rfl (by decide) (by omega) fun H hS=>?_
     obtain ⟨l7,hl7,hM⟩:=zaf hM
     refine zcp (xs:=v2) (ys:=([v6]:List Int)) (zs:=l7) (f:=cI) (L':=[(g4+2,.row 3 1),(g+2+1,.row 3 l7.length)]) 1 hS (by decide) rfl rfl rfl rfl .no zaq zbc za9 hl7 rfl fun H hS=>?_
     refine Oa (.sl (.id (g+2+1)) 1 (l7.map cI)) ?_
     refine Ni ?_
     refine zag ?_
     exact zak l7 (.k (.k (.k (.k .nil)))) ⟨(hS.keep [false,true] rfl).up (by omega),hM⟩
    ·refine Sq ?_
     refine Rg 1 ?_
     refine Oa (.i 0) ?_
     refine Ni ?_
     refine Ws ?_
     refine zan ?_
     refine zbg (V:=Int×Int) (fun v=>[(1,.sl .no 1 (a1.map cI)),(2,.ep (Wheel.cells a0)),(5,.sl (.id (g+2+1)) 1 (v2.map cI)),(6,.i v3),(7,.i v.1),(8,.i v.2)]) (fun v m5 H' g'=>St (·<g) H0 [(g+2+1,.row 3 v2.length)] H' g'/\zcI (zbo n a0 a1 m2) a1 v2 v3 m5 v.1 v.2=some r) (n:=n) (0,0) (.k (.k (.k (.k (.k (.k .nil)))))) ⟨(hS.keep [true] rfl).up (by omega),hM⟩ ?_
     rintro ⟨v8,v9⟩ m5 H g5 ⟨hS,hM⟩
     obtain _ | m5:=m5
     ·exact nomatch (show none=some _ from hM)
     change wpA _ _ _ _ (Fr.of [(1,.sl .no 1 (a1.map cI)),(2,.ep (Wheel.cells a0)),(5,.sl (.id (g+2+1)) 1 (v2.map cI)),(6,.i v3),(7,.i v8),(8,.i v9)]) _ _
     replace hS:St (·<g) H0 [(g+2+1,.row 3 v2.length)] H g5:=hS
     replace hM:zgx (zbo n a0 a1 m2) a1 v2 v3 (zcI (zbo n a0 a1 m2) a1 v2 v3 m5) v8 v9=some r:=hM
     refine Sq ?_
     refine Sq ?_
     refine Rg 4 ?_
     refine Om (.i v9) ?_
     refine Om (.sl .no 1 (a1.map cI)) ?_
     refine zbf (n:=a1.length) (by decide) rfl (List.length_map _) zaz ?_
     refine Oi (.b (decide (v9<(a1.length:Int)))) ?_
     refine Ni ?_
     refine Ws ?_
     rcases bft (decide (v9<(a1.length:Int))) with hb10 | hb10
     ·replace hM:=ifT hM hb10
      refine Ct hb10 ?_
      refine zav ?_
      refine Ws ?_
      refine zaR (J:=Int) (fun j=>[(1,.sl .no 1 (a1.map cI)),(2,.ep (Wheel.cells a0)),(5,.sl (.id (g+2+1)) 1 (v2.map cI)),(6,.i v3),(7,.i j),(8,.i v9)]) (fun j H' g'=>St (·<g) H0 [(g+2+1,.row 3 v2.length)] H' g'/\zgI (zcI (zbo n a0 a1 m2) a1 v2 v3 m5) v9 j=some r) ?_ ?_
      ·rintro v11 H g6 ⟨hS,hM⟩
       change wpA _ _ _ _ (Fr.of [(1,.sl .no 1 (a1.map cI)),(2,.ep (Wheel.cells a0)),(5,.sl (.id (g+2+1)) 1 (v2.map cI)),(6,.i v3),(7,.i v11),(8,.i v9)]) _ _
       replace hS:St (·<g) H0 [(g+2+1,.row 3 v2.length)] H g6:=hS
       replace hM:zgI (zcI (zbo n a0 a1 m2) a1 v2 v3 m5) v9 v11=some r:=hM
       refine Rg 3 ?_
       refine Om (.i v9) ?_
       refine Oi (.i (w64 (v9+1))) ?_
       refine Oa (.i (w64 (v9+1))) ?_
       refine Ni ?_
       exact za0 (v11,w64 (v9+1)) (Nat.lt_succ_self _) (.k (.k (.k (.k (.k (.k .nil)))))) ⟨(hS.keep [true] rfl).up (by omega),hM⟩
      ·refine zan ?_
       refine Sq ?_
       refine Rg 6 ?_
       refine Om (.sl .no 1 (a1.map cI)) ?_
       refine Om (.i v9) ?_
       obtain ⟨x12,hx12,hM⟩:=zaf hM
       refine zaG (xs:=a1) (f:=cI) (z:=v9) (u:=x12) (by decide) rfl rfl zaq hx12 ?_
       refine Olp (.i x12) zah zas ?_
       refine Om (.i v3) ?_
       refine Oi (.b (x12==v3)) ?_
       refine Ni ?_
       refine Ws ?_
       rcases bft (x12==v3) with hb13 | hb13
       ·replace hM:=ifT hM hb13
        refine Ct hb13 ?_
        refine Rg 3 ?_
        refine Om (.i v8) ?_
        refine Oi (.i (w64 (v8+1))) ?_
        refine Oa (.i (w64 (v8+1))) ?_
        refine Ni ?_
        refine zag ?_
        exact zak (w64 (v8+1)) (.k (.k (.k (.k (.k (.k .nil)))))) ⟨(hS.keep [true] rfl).up (by omega),hM⟩
       ·replace hM:=ifF hM hb13
        refine Cf hb13 ?_
        refine zav ?_
        refine zag ?_
        exact zak v8 (.k (.k (.k (.k (.k (.k .nil)))))) ⟨(hS.keep [true] rfl).up (by omega),hM⟩
     ·replace hM:=ifF hM hb10
      refine Cf hb10 ?_
      refine zbb ?_
      refine zam ?_
      refine zaj ?_
      refine zap ?_
      exact zak v8 (.k (.k (.k (.k (.k .nil))))) ⟨(hS.keep [true] rfl).up (by omega),hM⟩
  ·replace hM:=ifF hM hb4
   refine Cf hb4 ?_
   refine zbb ?_
   refine zam ?_
   refine zaj ?_
   refine zap ?_
   exact zak v2 (.k .nil) ⟨(hS.keep [true] rfl).up (by omega),hM⟩
theorem zo5 {n:Nat} {a0:Wheel} {a1:List Int} {r:Int} (hM:zje n a0 a1=some r):zaC Tryz.prog 40 [.agg (Wheel.cells a0),.sl .no 1 (a1.map cI)] (.i r):=by
 refine zal mixed Tryz.func40 rfl (by decide) Tryz.ntmps40 (by simp) ?pure fun H0 g hf=>?_
 case pure=>exact .v _
 rw [zai]
 change wpA _ _ _ _ (Fr.of [(0,.agg (Wheel.cells a0)),(1,.sl .no 1 (a1.map cI))]) H0 g
 have hS:=St.start hf
 refine Sq ?_
 refine Rg 2 ?_
 refine zcu (v:=.agg (Wheel.cells a0)) (cs:=(Wheel.cells a0)) hS (by decide) rfl rfl (by omega) fun H hS=>?_
 refine Oa (.i 0) ?_
 refine Ni ?_
 refine za8 (L':=[]) 0 2 hS rfl rfl rfl fun H hS=>?_
 refine Ws ?_
 refine Sq ?_
 refine Rg 1 ?_
 refine zbK hS (by decide) zbI (by omega) fun H hS=>?_
 refine Ni ?_
 refine Ws ?_
 refine Sq ?_
 refine Rg 1 ?_
 refine Oa (.i 0) ?_
 refine Ni ?_
 refine Ws ?_
 refine zaR (J:=Int) (fun j=>[(6,.i j)]) (fun j H' g'=>St (·<g) H0 [] H' g'/\zg7 j=some r) ?_ ?_
 ·rintro v1 H g1 ⟨hS,hM⟩
  change wpA _ _ _ _ (Fr.of [(6,.i v1)]) _ _
  replace hS:St (·<g) H0 [] H g1:=hS
  replace hM:zg7 v1=some r:=hM
  refine Sq ?_
  refine Rg 2 ?_
  refine Om (.i v1) ?_
  refine Oa (.i v1) ?_
  refine Ni ?_
  refine Ws ?_
  refine zaM ?_
  refine zaX (x:=.i v1) (f:=fun r=>.i r) (.inr rfl) ?_ (.refl _) (Option.some.inj hM) hS
  exact (zau (zae (x:=.i v1) rfl))
 ·refine Sq ?_
  refine Rg 1 ?_
  refine Oa (.i 0) ?_
  refine Ni ?_
  refine Ws ?_
  refine zan ?_
  refine zbg (V:=Int×Int×Int×Int) (fun v=>[(1,.sl .no 1 (a1.map cI)),(2,.ep (Wheel.cells a0)),(5,.ptr (g+2+0) 0),(6,.i v.1),(7,.i v.2.1)]) (fun v m3 H' g'=>St (·<g) H0 [(g+2+0,.cells [.i v.2.2.1,.i v.2.2.2])] H' g'/\zcB n a0 a1 m3 v.1 v.2.1 v.2.2.1 v.2.2.2=some r) (n:=n) (0,0,0,0) (.k (.k (.k (.k (.k .nil))))) ⟨(hS.keep [true] rfl).up (by omega),hM⟩ ?_
  rintro ⟨v4,v5,v6,v7⟩ m3 H g3 ⟨hS,hM⟩
  obtain _ | m3:=m3
  ·exact nomatch (show none=some _ from hM)
  change wpA _ _ _ _ (Fr.of [(1,.sl .no 1 (a1.map cI)),(2,.ep (Wheel.cells a0)),(5,.ptr (g+2+0) 0),(6,.i v4),(7,.i v5)]) _ _
  replace hS:St (·<g) H0 [(g+2+0,.cells [.i v6,.i v7])] H g3:=hS
  replace hM:zfX n a0 a1 (zcB n a0 a1 m3) v4 v5 v6 v7=some r:=hM
  refine Sq ?_
  refine Sq ?_
  refine Rg 4 ?_
  refine Om (.i v5) ?_
  refine Om (.sl .no 1 (a1.map cI)) ?_
  refine zbf (n:=a1.length) (by decide) rfl (List.length_map _) zaz ?_
  refine Oi (.b (decide (v5<(a1.length:Int)))) ?_
  refine Ni ?_
  refine Ws ?_
  rcases bft (decide (v5<(a1.length:Int))) with hb8 | hb8
  ·replace hM:=ifT hM hb8
   refine Ct hb8 ?_
   refine zav ?_
   refine Ws ?_
   refine Sq ?_
   refine zan ?_
   refine Sq ?_
   have hS0:=hS
   refine zb7 (n:=13) rfl (by kernel_rfl) ?_
   refine Olg (.agg (Wheel.cells a0)) zbt ?_
   refine za6 (v:=.agg [.i v6,.i v7]) 0 hS (by decide) rfl rfl (.st hS0 0 rfl (by omega)) (pg zcq) ?_
   refine Om (.sl .no 1 (a1.map cI)) ?_
   refine Om (.i v5) ?_
   obtain ⟨x9,hx9,hM⟩:=zaf hM
   refine zaG (xs:=a1) (f:=cI) (z:=v5) (u:=x9) (by decide) rfl rfl zaq hx9 ?_
   refine Olp (.i x9) zah zas ?_
   obtain ⟨r10,hr10,hM⟩:=zaf hM
   refine zat (bs:=[.agg (Wheel.cells a0),.agg [.i v6,.i v7],.i x9]) (by decide) rfl rfl ((zjJ hr10).le (.k (.k (.k .nil)))) ?_
   refine Om (.tup [.agg (Stand.cells r10.1),.b r10.2]) ?_
   refine Ox (.agg (Stand.cells r10.1)) ?_
   refine Ox (.b r10.2) ?_
   refine zbK hS (by decide) zbI (by omega) fun H hS=>?_
   refine za2 (v:=.agg (Stand.cells r10.1)) (ns:=(Stand.cells r10.1)) (L':=[(g3+4+10,.cells (Stand.cells r10.1)),(g+2+0,.cells [.i v6,.i v7])]) 0 hS rfl rfl (.behind (by kernel_rfl)) rfl rfl zc7 nlb rfl fun H hS=>?_
   refine Oa (.b r10.2) ?_
   refine Ni ?_
   refine za8 (L':=[(g+2+0,.cells [.i v6,.i v7])]) 0 8 hS rfl rfl rfl fun H hS=>?_
   refine Ws ?_
   refine Sq ?_
   refine Rg 8 ?_
   refine Om (.i v4) ?_
   refine Of ((Stand.cells r10.1)) zbn ?_
   refine Olp (.i r10.1.Credit) zah zas ?_
   refine zaT (by decide) zbn rfl ?_
   refine za6 (v:=.i v7) 0 hS (by decide) rfl rfl .no (po zah zas) ?_
   refine Oi (.i (w64 (r10.1.Credit-v7))) ?_
   refine Oi (.i (w64 (v4+(w64 (r10.1.Credit-v7))))) ?_
   refine Oa (.i (w64 (v4+(w64 (r10.1.Credit-v7))))) ?_
   refine Ni ?_
   refine Ws ?_
   refine zaR (J:=Int) (fun j=>[(1,.sl .no 1 (a1.map cI)),(2,.ep (Wheel.cells a0)),(5,.ptr (g+2+0) 0),(6,.i j),(7,.i v5),(8,.ep (Stand.cells r10.1))]) (fun j H' g'=>St (·<g) H0 [(g+2+0,.cells [.i v6,.i v7])] H' g'/\zfW (zcB n a0 a1 m3) v5 r10 j=some r) ?_ ?_
   ·rintro v11 H g4 ⟨hS,hM⟩
    change wpA _ _ _ _ (Fr.of [(1,.sl .no 1 (a1.map cI)),(2,.ep (Wheel.cells a0)),(5,.ptr (g+2+0) 0),(6,.i v11),(7,.i v5),(8,.ep (Stand.cells r10.1))]) _ _
    replace hS:St (·<g) H0 [(g+2+0,.cells [.i v6,.i v7])] H g4:=hS
    replace hM:zfW (zcB n a0 a1 m3) v5 r10 v11=some r:=hM
    refine Rg 2 ?_
    refine Olg (.agg (Stand.cells r10.1)) zcq ?_
    refine za2 (v:=.agg (Stand.cells r10.1)) (ns:=(Stand.cells r10.1)) (L':=[(g+2+0,.cells (Stand.cells r10.1))]) 0 hS rfl rfl .no rfl rfl zc7 nlb rfl fun H hS=>?_
    refine Ni ?_
    refine zag ?_
    refine Ws ?_
    refine Rg 3 ?_
    refine Om (.i v5) ?_
    refine Oi (.i (w64 (v5+1))) ?_
    refine Oa (.i (w64 (v5+1))) ?_
    refine Ni ?_
    exact za0 (v11,w64 (v5+1),r10.1.Place,r10.1.Credit) (Nat.lt_succ_self _) (.k (.k (.k (.k (.k .nil))))) ⟨(hS.keep [true] rfl).up (by omega),hM⟩
   ·refine Sq ?_
    refine Rg 1 ?_
    refine Om (.b r10.2) ?_
    refine Ni ?_
    refine Ws ?_
    rcases bft r10.2 with hb12 | hb12
    ·replace hM:=ifT hM hb12
     refine Ct hb12 ?_
     refine Rg 3 ?_
     refine Om (.i (w64 (v4+(w64 (r10.1.Credit-v7))))) ?_
     refine Oi (.i (w64 ((w64 (v4+(w64 (r10.1.Credit-v7))))+1))) ?_
     refine Oa (.i (w64 ((w64 (v4+(w64 (r10.1.Credit-v7))))+1))) ?_
     refine Ni ?_
     exact zak (w64 ((w64 (v4+(w64 (r10.1.Credit-v7))))+1)) (.k (.k (.k (.k (.k (.k .nil)))))) ⟨(hS.keep [true] rfl).up (by omega),hM⟩
    ·replace hM:=ifF hM hb12
     refine Cf hb12 ?_
     refine zav ?_
     exact zak (w64 (v4+(w64 (r10.1.Credit-v7)))) (.k (.k (.k (.k (.k (.k .nil)))))) ⟨(hS.keep [true] rfl).up (by omega),hM⟩
  ·replace hM:=ifF hM hb8
   refine Cf hb8 ?_
   refine zbb ?_
   refine zam ?_
   refine zaj ?_
   refine zap ?_
   exact zak v4 (.k .nil) ⟨(hS.keep [false] rfl).up (by omega),hM⟩
theorem zjL {n:Nat} {a0:Box} {a1:List Int} {a2:List Int} {r:Bool} (hM:zeV n a0 a1 a2=some r):zaC Tryz.prog 15 [.agg (Box.cells a0),.sl .no 1 (a1.map cI),.sl .no 1 (a2.map cI)] (.b r):=by
 refine zal mixed Tryz.func15 rfl (by decide) Tryz.ntmps15 (by simp) ?pure fun H0 g hf=>?_
 case pure=>exact .v _
 rw [zai]
 change wpA _ _ _ _ (Fr.of [(0,.agg (Box.cells a0)),(1,.sl .no 1 (a1.map cI)),(2,.sl .no 1 (a2.map cI))]) H0 g
 have hS:=St.start hf
 refine Sq ?_
 refine Rg 2 ?_
 refine zcu (v:=.agg (Box.cells a0)) (cs:=(Box.cells a0)) hS (by decide) rfl rfl (by omega) fun H hS=>?_
 refine Oa (.b false) ?_
 refine Ni ?_
 refine za8 (L':=[]) 0 3 hS rfl rfl rfl fun H hS=>?_
 refine Ws ?_
 refine Sq ?_
 refine zaR (J:=Bool) (fun j=>[(1,.sl .no 1 (a1.map cI)),(2,.sl .no 1 (a2.map cI)),(3,.ep (Box.cells a0)),(22,.b j)]) (fun j H' g'=>St (·<g) H0 [] H' g'/\zbD n a0 a1 a2 j=some r) ?_ ?_
 ·rintro v1 H g1 ⟨hS,hM⟩
  change wpA _ _ _ _ (Fr.of [(1,.sl .no 1 (a1.map cI)),(2,.sl .no 1 (a2.map cI)),(3,.ep (Box.cells a0)),(22,.b v1)]) _ _
  replace hS:St (·<g) H0 [] H g1:=hS
  replace hM:zbD n a0 a1 a2 v1=some r:=hM
  rcases bft v1 with hb2 | hb2
  ·replace hM:=ifT hM hb2
   refine Ct hb2 ?_
   refine Sq ?_
   refine Rg 1 ?_
   refine Oa (.b false) ?_
   refine Ni ?_
   refine Ws ?_
   refine zaM ?_
   refine zar ?_
   refine zaX (x:=.b false) (f:=fun r=>.b r) (.inr rfl) ?_ (.refl _) (Option.some.inj hM) hS
   exact (zau (zae (x:=.b false) rfl))
  ·replace hM:=ifF hM hb2
   refine Cf hb2 ?_
   refine zav ?_
   refine Ws ?_
   refine zaR (J:=Unit) (fun j=>[(1,.sl .no 1 (a1.map cI)),(2,.sl .no 1 (a2.map cI)),(3,.ep (Box.cells a0))]) (fun j H' g'=>St (·<g) H0 [] H' g'/\zcT n a0 a1 a2=some r) ?_ ?_
   ·rintro _ H g2 ⟨hS,hM⟩
    change wpA _ _ _ _ (Fr.of [(1,.sl .no 1 (a1.map cI)),(2,.sl .no 1 (a2.map cI)),(3,.ep (Box.cells a0))]) _ _
    replace hS:St (·<g) H0 [] H g2:=hS
    replace hM:zcT n a0 a1 a2=some r:=hM
    refine Sq ?_
    refine Rg 5 ?_
    refine Olg (.agg (Box.cells a0)) za4 ?_
    obtain ⟨r3,hr3,hM⟩:=zaf hM
    refine zat (bs:=[.agg (Box.cells a0)]) (by decide) rfl rfl ((zjH hr3).le (.k .nil)) ?_
    refine Om (.sl .no 1 (a1.map cI)) ?_
    obtain ⟨r4,hr4,hM⟩:=zaf hM
    refine zat (bs:=[.sl .no 1 (r3.map cI),.sl .no 1 (a1.map cI)]) (by decide) rfl rfl ((ziT hr4).le (.k (.k .nil))) ?_
    refine Oa (.sl .no 1 (r4.map cI)) ?_
    refine Ni ?_
    refine Ws ?_
    refine zaR (J:=Bool) (fun j=>[(6,.b j)]) (fun j H' g'=>St (·<g) H0 [] H' g'/\zcS j=some r) ?_ ?_
    ·rintro v5 H g3 ⟨hS,hM⟩
     change wpA _ _ _ _ (Fr.of [(6,.b v5)]) _ _
     replace hS:St (·<g) H0 [] H g3:=hS
     replace hM:zcS v5=some r:=hM
     refine zaM ?_
     refine zaX (x:=.b v5) (f:=fun r=>.b r) (.inr rfl) ?_ (.refl _) (Option.some.inj hM) hS
     exact (zau (zae (x:=.b v5) rfl))
    ·have hS0:=hS
     refine zb7 (n:=23) rfl (by kernel_rfl) ?_
     refine Om (.sl .no 1 (a2.map cI)) ?_
     refine zbf (n:=a2.length) (by decide) rfl (List.length_map _) zaz ?_
     refine Om (.sl .no 1 (r4.map cI)) ?_
     obtain ⟨r6,hr6,hM⟩:=zaf hM
     refine zat (bs:=[.sl .no 1 (r4.map cI)]) (by decide) rfl rfl ((zf1 hr6).le (.k .nil)) ?_
     refine Oi (.i (w64 (2*r6))) ?_
     refine Oi (.b (decide ((a2.length:Int)<=(w64 (2*r6))))) ?_
     refine Om (.b (decide ((a2.length:Int)<=(w64 (2*r6))))) ?_
     rcases bft (decide ((a2.length:Int)<=(w64 (2*r6)))) with hb7 | hb7
     ·replace hM:=ifT hM hb7
      refine Oy (want:=true) hb7 ?_
      refine Of ((Box.cells a0)) zba ?_
      refine Oy (want:=true) hb7 ?_
      refine Olg (.agg (Wheel.cells a0.Wheel)) zbt ?_
      refine Oy (want:=true) hb7 ?_
      refine Om (.sl .no 1 (a2.map cI)) ?_
      refine Oy (want:=true) hb7 ?_
      obtain ⟨r8,hr8,hM⟩:=zaf hM
      refine zat (bs:=[.agg (Wheel.cells a0.Wheel),.sl .no 1 (a2.map cI)]) (by decide) rfl rfl ((zp8 hr8).le (.k (.k .nil))) ?_
      refine Oy (want:=true) hb7 ?_
      refine Om (.sl .no 1 (r4.map cI)) ?_
      refine Oy (want:=true) hb7 ?_
      obtain ⟨r9,hr9,hM⟩:=zaf hM
      refine zat (bs:=[.sl .no 1 (r8.map cI),.sl .no 1 (r4.map cI)]) (by decide) rfl rfl ((zcl hr9).le (.k (.k .nil))) ?_
      refine Pt (.b r9) hb7 ?_
      refine Om (.b r9) ?_
      rcases bft r9 with hb10 | hb10
      ·replace hM:=ifT hM hb10
       refine Oy (want:=true) hb10 ?_
       refine Olg (.agg (Box.cells a0)) za4 ?_
       refine Oy (want:=true) hb10 ?_
       refine Of ((Box.cells a0)) zba ?_
       refine Oy (want:=true) hb10 ?_
       refine Olg (.agg (Wheel.cells a0.Wheel)) zbt ?_
       refine Oy (want:=true) hb10 ?_
       refine Om (.sl .no 1 (a2.map cI)) ?_
       refine Oy (want:=true) hb10 ?_
       obtain ⟨r11,hr11,hM⟩:=zaf hM
       refine zat (bs:=[.agg (Wheel.cells a0.Wheel),.sl .no 1 (a2.map cI)]) (by decide) rfl rfl ((zo5 hr11).le (.k (.k .nil))) ?_
       refine Oy (want:=true) hb10 ?_
       obtain ⟨r12,hr12,hM⟩:=zaf hM
       refine zat (bs:=[.agg (Box.cells a0),.i r11]) (by decide) rfl rfl ((ziX hr12).le (.k (.k .nil))) ?_
       refine Pt (.b r12) hb10 ?_
       refine Oa (.b r12) ?_
       refine Ni ?_
       exact zak r12 (.k .nil) ⟨(hS.keep [] rfl).up (by omega),hM⟩
      ·replace hM:=ifF hM hb10
       refine On (want:=true) hb10 ?_
       refine On (want:=true) hb10 ?_
       refine On (want:=true) hb10 ?_
       refine On (want:=true) hb10 ?_
       refine On (want:=true) hb10 ?_
       refine On (want:=true) hb10 ?_
       refine Pf (.b false) hb10 ?_
       refine Oa (.b false) ?_
       refine Ni ?_
       exact zak false (.k .nil) ⟨(hS.keep [] rfl).up (by omega),hM⟩
     ·replace hM:=ifF hM hb7
      refine On (want:=true) hb7 ?_
      refine On (want:=true) hb7 ?_
      refine On (want:=true) hb7 ?_
      refine On (want:=true) hb7 ?_
      refine On (want:=true) hb7 ?_
      refine On (want:=true) hb7 ?_
      refine Pf (.b false) hb7 ?_
      refine Om (.b false) ?_
      refine Og ?_
      refine Og ?_
      refine Og ?_
      refine Og ?_
      refine Og ?_
      refine Og ?_
      refine zaY (v:=.b false) (e:=false) (by decide) rfl rfl rfl ?_
      refine Oa (.b false) ?_
      refine Ni ?_
      exact zak false (.k .nil) ⟨(hS.keep [] rfl).up (by omega),hM⟩
   ·refine Sq ?_
    refine Rg 1 ?_
    refine Oa (.i 0) ?_
    refine Ni ?_
    refine Ws ?_
    refine zan ?_
    refine zbg (V:=Int) (fun v=>[(1,.sl .no 1 (a1.map cI)),(2,.sl .no 1 (a2.map cI)),(3,.ep (Box.cells a0)),(7,.i v)]) (fun v m4 H' g'=>St (·<g) H0 [] H' g'/\zbd n a0 a1 a2 m4 v=some r) (n:=n) 0 (.k (.k (.k (.k .nil)))) ⟨(hS.keep [] rfl).up (by omega),hM⟩ ?_
    rintro v13 m4 H g4 ⟨hS,hM⟩
    obtain _ | m4:=m4
    ·exact nomatch (show none=some _ from hM)
    change wpA _ _ _ _ (Fr.of [(1,.sl .no 1 (a1.map cI)),(2,.sl .no 1 (a2.map cI)),(3,.ep (Box.cells a0)),(7,.i v13)]) _ _
    replace hS:St (·<g) H0 [] H g4:=hS
    replace hM:zc9 n a0 a1 a2 (zbd n a0 a1 a2 m4) v13=some r:=hM
    refine Sq ?_
    refine Sq ?_
    refine Rg 4 ?_
    refine Om (.i v13) ?_
    refine Om (.sl .no 1 (a2.map cI)) ?_
    refine zbf (n:=a2.length) (by decide) rfl (List.length_map _) zaz ?_
    refine Oi (.b (decide (v13<(a2.length:Int)))) ?_
    refine Ni ?_
    refine Ws ?_
    rcases bft (decide (v13<(a2.length:Int))) with hb14 | hb14
    ·replace hM:=ifT hM hb14
     refine Ct hb14 ?_
     refine zav ?_
     refine Ws ?_
     refine Sq ?_
     refine zan ?_
     refine zaR (J:=Bool) (fun j=>[(1,.sl .no 1 (a1.map cI)),(2,.sl .no 1 (a2.map cI)),(3,.ep (Box.cells a0)),(7,.i v13),(43,.b j)]) (fun j H' g'=>St (·<g) H0 [] H' g'/\zcU (zbd n a0 a1 a2 m4) v13 j=some r) ?_ ?_
     ·rintro v15 H g5 ⟨hS,hM⟩
      change wpA _ _ _ _ (Fr.of [(1,.sl .no 1 (a1.map cI)),(2,.sl .no 1 (a2.map cI)),(3,.ep (Box.cells a0)),(7,.i v13),(43,.b v15)]) _ _
      replace hS:St (·<g) H0 [] H g5:=hS
      replace hM:zcU (zbd n a0 a1 a2 m4) v13 v15=some r:=hM
      rcases bft v15 with hb16 | hb16
      ·replace hM:=ifT hM hb16
       refine Ct hb16 ?_
       refine Sq ?_
       refine Rg 1 ?_
       refine Oa (.b false) ?_
       refine Ni ?_
       refine Ws ?_
       refine zaM ?_
       refine za5 ?_
       refine zar ?_
       refine zbR ?_
       refine za5 ?_
       refine zct ?_
       refine zaX (x:=.b false) (f:=fun r=>.b r) (.inr rfl) ?_ (.refl _) (Option.some.inj hM) hS
       exact (zau (zae (x:=.b false) rfl))
      ·replace hM:=ifF hM hb16
       refine Cf hb16 ?_
       refine zav ?_
       refine zag ?_
       refine Ws ?_
       refine Rg 3 ?_
       refine Om (.i v13) ?_
       refine Oi (.i (w64 (v13+1))) ?_
       refine Oa (.i (w64 (v13+1))) ?_
       refine Ni ?_
       exact za0 (w64 (v13+1)) (Nat.lt_succ_self _) (.k (.k (.k (.k .nil)))) ⟨(hS.keep [] rfl).up (by omega),hM⟩
     ·have hS0:=hS
      refine zb7 (n:=15) rfl (by kernel_rfl) ?_
      refine Om (.sl .no 1 (a2.map cI)) ?_
      refine Om (.i v13) ?_
      obtain ⟨x17,hx17,hM⟩:=zaf hM
      refine zaG (xs:=a2) (f:=cI) (z:=v13) (u:=x17) (by decide) rfl rfl zaq hx17 ?_
      refine Olp (.i x17) zah zas ?_
      refine Oi (.b (decide (x17<(-1)))) ?_
      refine Om (.b (decide (x17<(-1)))) ?_
      rcases bft (decide (x17<(-1))) with hb18 | hb18
      ·replace hM:=ifT hM hb18
       refine On (want:=false) hb18 ?_
       refine On (want:=false) hb18 ?_
       refine On (want:=false) hb18 ?_
       refine On (want:=false) hb18 ?_
       refine On (want:=false) hb18 ?_
       refine On (want:=false) hb18 ?_
       refine On (want:=false) hb18 ?_
       refine On (want:=false) hb18 ?_
       refine Pt (.b true) hb18 ?_
       refine Ni ?_
       exact zak true (.k (.k (.k (.k (.k .nil))))) ⟨(hS.keep [] rfl).up (by omega),hM⟩
      ·replace hM:=ifF hM hb18
       refine Oy (want:=false) hb18 ?_
       refine Om (.sl .no 1 (a2.map cI)) ?_
       refine Oy (want:=false) hb18 ?_
       refine Om (.i v13) ?_
       refine Oy (want:=false) hb18 ?_
       obtain ⟨x19,hx19,hM⟩:=zaf hM
       refine zaG (xs:=a2) (f:=cI) (z:=v13) (u:=x19) (by decide) rfl rfl zaq hx19 ?_
       refine Oy (want:=false) hb18 ?_
       refine Olp (.i x19) zah zas ?_
       refine Oy (want:=false) hb18 ?_
       refine Of ((Box.cells a0)) zch ?_
       refine Oy (want:=false) hb18 ?_
       refine Olp (.sl .no 1 (a0.Found.map cI)) zao zaB ?_
       refine Oy (want:=false) hb18 ?_
       refine zbf (n:=a0.Found.length) (by decide) rfl (List.length_map _) zaz ?_
       refine Oy (want:=false) hb18 ?_
       refine Oi (.b (decide (x19≥(a0.Found.length:Int)))) ?_
       refine Pf (.b (decide (x19≥(a0.Found.length:Int)))) hb18 ?_
       refine Ni ?_
       exact zak (decide (x19≥(a0.Found.length:Int))) (.k (.k (.k (.k (.k .nil))))) ⟨(hS.keep [] rfl).up (by omega),hM⟩
    ·replace hM:=ifF hM hb14
     refine Cf hb14 ?_
     refine zbb ?_
     refine zam ?_
     refine zaj ?_
     refine zap ?_
     exact zak () (.k (.k (.k .nil))) ⟨(hS.keep [] rfl).up (by omega),hM⟩
 ·refine Rg 14 ?_
  refine Om (.sl .no 1 (a2.map cI)) ?_
  refine zbf (n:=a2.length) (by decide) rfl (List.length_map _) zaz ?_
  refine Oi (.b (decide ((a2.length:Int)>40))) ?_
  refine Om (.b (decide ((a2.length:Int)>40))) ?_
  rcases bft (decide ((a2.length:Int)>40)) with hb20 | hb20
  ·replace hM:=ifT hM hb20
   refine On (want:=false) hb20 ?_
   refine On (want:=false) hb20 ?_
   refine On (want:=false) hb20 ?_
   refine Pt (.b true) hb20 ?_
   refine Om (.b true) ?_
   refine Og ?_
   refine Og ?_
   refine Og ?_
   refine Og ?_
   refine zbS (v:=.b true) (e:=true) (by decide) rfl rfl rfl ?_
   refine Ni ?_
   exact zak true (.k (.k (.k (.k .nil)))) ⟨(hS.keep [] rfl).up (by omega),hM⟩
  ·replace hM:=ifF hM hb20
   refine Oy (want:=false) hb20 ?_
   refine Om (.sl .no 1 (a1.map cI)) ?_
   refine Oy (want:=false) hb20 ?_
   refine zbf (n:=a1.length) (by decide) rfl (List.length_map _) zaz ?_
   refine Oy (want:=false) hb20 ?_
   refine Oi (.b (decide ((a1.length:Int)>40))) ?_
   refine Pf (.b (decide ((a1.length:Int)>40))) hb20 ?_
   refine Om (.b (decide ((a1.length:Int)>40))) ?_
   rcases bft (decide ((a1.length:Int)>40)) with hb21 | hb21
   ·replace hM:=ifT hM hb21
    refine On (want:=false) hb21 ?_
    refine On (want:=false) hb21 ?_
    refine On (want:=false) hb21 ?_
    refine On (want:=false) hb21 ?_
    refine Pt (.b true) hb21 ?_
    refine Ni ?_
    exact zak true (.k (.k (.k (.k .nil)))) ⟨(hS.keep [] rfl).up (by omega),hM⟩
   ·replace hM:=ifF hM hb21
    refine Oy (want:=false) hb21 ?_
    refine Olg (.agg (Box.cells a0)) za4 ?_
    refine Oy (want:=false) hb21 ?_
    refine Om (.sl .no 1 (a1.map cI)) ?_
    refine Oy (want:=false) hb21 ?_
    obtain ⟨r22,hr22,hM⟩:=zaf hM
    refine zat (bs:=[.agg (Box.cells a0),.sl .no 1 (a1.map cI)]) (by decide) rfl rfl ((zk2 hr22).le (.k (.k .nil))) ?_
    refine Oy (want:=false) hb21 ?_
    refine zfw (e:=r22) (by decide) rfl ?_
    refine Pf (.b (!r22)) hb21 ?_
    refine Ni ?_
    exact zak (!r22) (.k (.k (.k (.k .nil)))) ⟨(hS.keep [] rfl).up (by omega),hM⟩
theorem zix {n:Nat} {a0:Box} {r:Bool} (hM:ze2 n a0=some r):zaC Tryz.prog 3 [.agg (Box.cells a0)] (.b r):=by
 refine zal mixed Tryz.func3 rfl (by decide) Tryz.ntmps3 (by simp) ?pure fun H0 g hf=>?_
 case pure=>exact .v _
 rw [zai]
 change wpA _ _ _ _ (Fr.of [(0,.agg (Box.cells a0))]) H0 g
 have hS:=St.start hf
 refine Sq ?_
 refine Rg 2 ?_
 refine zcu (v:=.agg (Box.cells a0)) (cs:=(Box.cells a0)) hS (by decide) rfl rfl (by omega) fun H hS=>?_
 refine Oa (.b false) ?_
 refine Ni ?_
 refine za8 (L':=[]) 0 1 hS rfl rfl rfl fun H hS=>?_
 refine Ws ?_
 refine Sq ?_
 refine Sq ?_
 refine Rg 2 ?_
 refine Olg (.agg (Box.cells a0)) za4 ?_
 obtain ⟨r1,hr1,hM⟩:=zaf hM
 refine zat (bs:=[.agg (Box.cells a0)]) (by decide) rfl rfl ((zp2 hr1).le (.k .nil)) ?_
 refine Ni ?_
 refine Ws ?_
 rcases bft r1 with hb2 | hb2
 ·replace hM:=ifT hM hb2
  refine Ct hb2 ?_
  refine Sq ?_
  refine Rg 2 ?_
  obtain ⟨r3,hr3,hM⟩:=zaf hM
  refine zat (bs:=[]) (by decide) rfl rfl ((zir hr3).le .nil) ?_
  refine Oa (.b r3) ?_
  refine Ni ?_
  refine Ws ?_
  refine zaM ?_
  refine zar ?_
  refine zaX (x:=.b r3) (f:=fun r=>.b r) (.inr rfl) ?_ (.refl _) (Option.some.inj hM) hS
  exact (zau (zae (x:=.b r3) rfl))
 ·replace hM:=ifF hM hb2
  refine Cf hb2 ?_
  refine zav ?_
  refine Ws ?_
  refine Sq ?_
  refine Rg 4 ?_
  refine Olg (.agg (Box.cells a0)) za4 ?_
  obtain ⟨r4,hr4,hM⟩:=zaf hM
  refine zat (bs:=[.agg (Box.cells a0)]) (by decide) rfl rfl ((zo1 hr4).le (.k .nil)) ?_
  refine zbK hS (by decide) zh1 (by omega) fun H hS=>?_
  refine za2 (v:=.agg (Box.cells r4)) (ns:=(Box.cells r4)) (L':=[(g+2+2+2,.cells (Box.cells r4))]) 0 hS rfl rfl .no rfl rfl zkc nlb rfl fun H hS=>?_
  refine Ni ?_
  refine za8 (L':=[]) 0 3 hS rfl rfl rfl fun H hS=>?_
  refine Ws ?_
  refine Sq ?_
  refine Rg 7 ?_
  refine Olg (.agg (Box.cells r4)) za4 ?_
  obtain ⟨r5,hr5,hM⟩:=zaf hM
  refine zat (bs:=[.agg (Box.cells r4)]) (by decide) rfl rfl ((zh7 hr5).le (.k .nil)) ?_
  refine Om (.tup [.i r5.1,.i r5.2]) ?_
  refine Ox (.i r5.1) ?_
  refine Ox (.i r5.2) ?_
  refine Oa (.i r5.1) ?_
  refine Oa (.i r5.2) ?_
  refine Ni ?_
  refine Ws ?_
  refine Sq ?_
  refine Rg 7 ?_
  refine Olg (.agg (Box.cells a0)) za4 ?_
  obtain ⟨r6,hr6,hM⟩:=zaf hM
  refine zat (bs:=[.agg (Box.cells a0)]) (by decide) rfl rfl ((ziY hr6).le (.k .nil)) ?_
  refine Om (.tup [.i r6.1,.i r6.2]) ?_
  refine Ox (.i r6.1) ?_
  refine Ox (.i r6.2) ?_
  refine Oa (.i r6.1) ?_
  refine Oa (.i r6.2) ?_
  refine Ni ?_
  refine Ws ?_
  refine Sq ?_
  refine Rg 7 ?_
  refine Olg (.agg (Box.cells r4)) za4 ?_
  obtain ⟨r7,hr7,hM⟩:=zaf hM
  refine zat (bs:=[.agg (Box.cells r4)]) (by decide) rfl rfl ((zmt hr7).le (.k .nil)) ?_
  refine Om (.tup [.sl .no 1 (r7.1.map cI),.i r7.2]) ?_
  refine Ox (.sl .no 1 (r7.1.map cI)) ?_
  refine Ox (.i r7.2) ?_
  refine Oa (.sl .no 1 (r7.1.map cI)) ?_
  refine Oa (.i r7.2) ?_
  refine Ni ?_
  refine Ws ?_
  refine Sq ?_
  refine Rg 7 ?_
  refine Olg (.agg (Box.cells a0)) za4 ?_
  obtain ⟨r8,hr8,hM⟩:=zaf hM
  refine zat (bs:=[.agg (Box.cells a0)]) (by decide) rfl rfl ((zoc hr8).le (.k .nil)) ?_
  refine Om (.tup [.sl .no 1 (r8.1.map cI),.i r8.2]) ?_
  refine Ox (.sl .no 1 (r8.1.map cI)) ?_
  refine Ox (.i r8.2) ?_
  refine Oa (.sl .no 1 (r8.1.map cI)) ?_
  refine Oa (.i r8.2) ?_
  refine Ni ?_
  refine Ws ?_
  refine Sq ?_
  refine Rg 9 ?_
  refine Olg (.agg (Box.cells r4)) za4 ?_
  obtain ⟨r9,hr9,hM⟩:=zaf hM
  refine zat (bs:=[.agg (Box.cells r4)]) (by decide) rfl rfl ((zk1 hr9).le (.k .nil)) ?_
  refine Om (.tup [.sl .no 1 (r9.1.map cI),.sl .no 1 (r9.2.1.map cI),.i r9.2.2]) ?_
  refine Ox (.sl .no 1 (r9.1.map cI)) ?_
  refine Ox (.sl .no 1 (r9.2.1.map cI)) ?_
  refine Ox (.i r9.2.2) ?_
  refine Oa (.sl .no 1 (r9.1.map cI)) ?_
  refine Oa (.sl .no 1 (r9.2.1.map cI)) ?_
  refine Oa (.i r9.2.2) ?_
  refine Ni ?_
  refine Ws ?_
  refine Sq ?_
  refine zaR (J:=Bool) (fun j=>[(1,.ep (Box.cells a0)),(6,.i r6.1),(7,.i r6.2),(12,.sl .no 1 (r9.1.map cI)),(13,.sl .no 1 (r9.2.1.map cI)),(75,.b j)]) (fun j H' g'=>St (·<g) H0 [] H' g'/\zaH n a0 r6 r9 j=some r) ?_ ?_
  ·rintro v10 H g1 ⟨hS,hM⟩
   change wpA _ _ _ _ (Fr.of [(1,.ep (Box.cells a0)),(6,.i r6.1),(7,.i r6.2),(12,.sl .no 1 (r9.1.map cI)),(13,.sl .no 1 (r9.2.1.map cI)),(75,.b v10)]) _ _
   replace hS:St (·<g) H0 [] H g1:=hS
   replace hM:zaH n a0 r6 r9 v10=some r:=hM
   rcases bft v10 with hb11 | hb11
   ·replace hM:=ifT hM hb11
    refine Ct hb11 ?_
    refine Sq ?_
    refine Rg 1 ?_
    refine Oa (.b false) ?_
    refine Ni ?_
    refine Ws ?_
    refine zaM ?_
    refine zar ?_
    refine zaX (x:=.b false) (f:=fun r=>.b r) (.inr rfl) ?_ (.refl _) (Option.some.inj hM) hS
    exact (zau (zae (x:=.b false) rfl))
   ·replace hM:=ifF hM hb11
    refine Cf hb11 ?_
    refine zav ?_
    refine Ws ?_
    refine Sq ?_
    refine Sq ?_
    refine Rg 2 ?_
    refine Om (.i r6.2) ?_
    refine Oi (.b (r6.2 != 0)) ?_
    refine Ni ?_
    refine Ws ?_
    rcases bft (r6.2 != 0) with hb12 | hb12
    ·replace hM:=ifT hM hb12
     refine Ct hb12 ?_
     refine zaR (J:=Bool) (fun j=>[(2,.b j)]) (fun j H' g'=>St (·<g) H0 [] H' g'/\zcV j=some r) ?_ ?_
     ·rintro v13 H g2 ⟨hS,hM⟩
      change wpA _ _ _ _ (Fr.of [(2,.b v13)]) _ _
      replace hS:St (·<g) H0 [] H g2:=hS
      replace hM:zcV v13=some r:=hM
      refine zaM ?_
      refine zar ?_
      refine zaX (x:=.b v13) (f:=fun r=>.b r) (.inr rfl) ?_ (.refl _) (Option.some.inj hM) hS
      exact (zau (zae (x:=.b v13) rfl))
     ·refine Rg 10 ?_
      refine Om (.sl .no 1 (r9.1.map cI)) ?_
      refine zbf (n:=r9.1.length) (by decide) rfl (List.length_map _) zaz ?_
      refine Om (.sl .no 1 (r9.2.1.map cI)) ?_
      refine zbf (n:=r9.2.1.length) (by decide) rfl (List.length_map _) zaz ?_
      refine Oi (.i (w64 ((r9.1.length:Int)+(r9.2.1.length:Int)))) ?_
      refine Oi (.b ((w64 ((r9.1.length:Int)+(r9.2.1.length:Int)))==0)) ?_
      refine Om (.b ((w64 ((r9.1.length:Int)+(r9.2.1.length:Int)))==0)) ?_
      rcases bft ((w64 ((r9.1.length:Int)+(r9.2.1.length:Int)))==0) with hb14 | hb14
      ·replace hM:=ifT hM hb14
       refine Oy (want:=true) hb14 ?_
       obtain ⟨r15,hr15,hM⟩:=zaf hM
       refine zat (bs:=[]) (by decide) rfl rfl ((zir hr15).le .nil) ?_
       refine Pt (.b r15) hb14 ?_
       refine Oa (.b r15) ?_
       refine Ni ?_
       exact zak r15 (.k .nil) ⟨(hS.keep [] rfl).up (by omega),hM⟩
      ·replace hM:=ifF hM hb14
       refine On (want:=true) hb14 ?_
       refine Pf (.b false) hb14 ?_
       refine Oa (.b false) ?_
       refine Ni ?_
       exact zak false (.k .nil) ⟨(hS.keep [] rfl).up (by omega),hM⟩
    ·replace hM:=ifF hM hb12
     refine Cf hb12 ?_
     refine zav ?_
     refine Ws ?_
     refine zaR (J:=Bool) (fun j=>[(2,.b j)]) (fun j H' g'=>St (·<g) H0 [] H' g'/\zcg j=some r) ?_ ?_
     ·rintro v16 H g3 ⟨hS,hM⟩
      change wpA _ _ _ _ (Fr.of [(2,.b v16)]) _ _
      replace hS:St (·<g) H0 [] H g3:=hS
      replace hM:zcg v16=some r:=hM
      refine zaM ?_
      refine zaX (x:=.b v16) (f:=fun r=>.b r) (.inr rfl) ?_ (.refl _) (Option.some.inj hM) hS
      exact (zau (zae (x:=.b v16) rfl))
     ·refine Rg 16 ?_
      refine Olg (.agg (Box.cells a0)) za4 ?_
      refine Om (.sl .no 1 (r9.1.map cI)) ?_
      refine Om (.sl .no 1 (r9.2.1.map cI)) ?_
      obtain ⟨r17,hr17,hM⟩:=zaf hM
      refine zat (bs:=[.agg (Box.cells a0),.sl .no 1 (r9.1.map cI),.sl .no 1 (r9.2.1.map cI)]) (by decide) rfl rfl ((zjL hr17).le (.k (.k (.k .nil)))) ?_
      refine Om (.b r17) ?_
      rcases bft r17 with hb18 | hb18
      ·replace hM:=ifT hM hb18
       refine Oy (want:=true) hb18 ?_
       refine Of ((Box.cells a0)) zba ?_
       refine Oy (want:=true) hb18 ?_
       refine Olg (.agg (Wheel.cells a0.Wheel)) zbt ?_
       refine Oy (want:=true) hb18 ?_
       refine Om (.sl .no 1 (r9.1.map cI)) ?_
       refine Oy (want:=true) hb18 ?_
       obtain ⟨r19,hr19,hM⟩:=zaf hM
       refine zat (bs:=[.agg (Wheel.cells a0.Wheel),.sl .no 1 (r9.1.map cI)]) (by decide) rfl rfl ((zes hr19).le (.k (.k .nil))) ?_
       refine Oy (want:=true) hb18 ?_
       refine Om (.i r6.1) ?_
       refine Oy (want:=true) hb18 ?_
       refine Oi (.b (r19==r6.1)) ?_
       refine Pt (.b (r19==r6.1)) hb18 ?_
       refine Om (.b (r19==r6.1)) ?_
       rcases bft (r19==r6.1) with hb20 | hb20
       ·replace hM:=ifT hM hb20
        refine Oy (want:=true) hb20 ?_
        obtain ⟨r21,hr21,hM⟩:=zaf hM
        refine zat (bs:=[]) (by decide) rfl rfl ((zir hr21).le .nil) ?_
        refine Pt (.b r21) hb20 ?_
        refine Oa (.b r21) ?_
        refine Ni ?_
        exact zak r21 (.k .nil) ⟨(hS.keep [] rfl).up (by omega),hM⟩
       ·replace hM:=ifF hM hb20
        refine On (want:=true) hb20 ?_
        refine Pf (.b false) hb20 ?_
        refine Oa (.b false) ?_
        refine Ni ?_
        exact zak false (.k .nil) ⟨(hS.keep [] rfl).up (by omega),hM⟩
      ·replace hM:=ifF hM hb18
       refine On (want:=true) hb18 ?_
       refine On (want:=true) hb18 ?_
       refine On (want:=true) hb18 ?_
       refine On (want:=true) hb18 ?_
       refine On (want:=true) hb18 ?_
       refine On (want:=true) hb18 ?_
       refine Pf (.b false) hb18 ?_
       refine Om (.b false) ?_
       refine Og ?_
       refine zaY (v:=.b false) (e:=false) (by decide) rfl rfl rfl ?_
       refine Oa (.b false) ?_
       refine Ni ?_
       exact zak false (.k .nil) ⟨(hS.keep [] rfl).up (by omega),hM⟩
  ·refine Rg 30 ?_
   refine Om (.i r5.1) ?_
   refine Om (.i r6.1) ?_
   refine Oi (.b (r5.1 != r6.1)) ?_
   refine Om (.b (r5.1 != r6.1)) ?_
   rcases bft (r5.1 != r6.1) with hb22 | hb22
   ·replace hM:=ifT hM hb22
    refine On (want:=false) hb22 ?_
    refine On (want:=false) hb22 ?_
    refine On (want:=false) hb22 ?_
    refine Pt (.b true) hb22 ?_
    refine Om (.b true) ?_
    refine Og ?_
    refine Og ?_
    refine Og ?_
    refine Og ?_
    refine zbS (v:=.b true) (e:=true) (by decide) rfl rfl rfl ?_
    refine Om (.b true) ?_
    refine Og ?_
    refine Og ?_
    refine Og ?_
    refine zbS (v:=.b true) (e:=true) (by decide) rfl rfl rfl ?_
    refine Om (.b true) ?_
    refine Og ?_
    refine Og ?_
    refine Og ?_
    refine zbS (v:=.b true) (e:=true) (by decide) rfl rfl rfl ?_
    refine Om (.b true) ?_
    refine Og ?_
    refine Og ?_
    refine Og ?_
    refine Og ?_
    refine zbS (v:=.b true) (e:=true) (by decide) rfl rfl rfl ?_
    refine Ni ?_
    exact zak true (.k (.k (.k (.k (.k (.k .nil)))))) ⟨(hS.keep [] rfl).up (by omega),hM⟩
   ·replace hM:=ifF hM hb22
    refine Oy (want:=false) hb22 ?_
    refine Om (.i r5.2) ?_
    refine Oy (want:=false) hb22 ?_
    refine Om (.i r6.2) ?_
    refine Oy (want:=false) hb22 ?_
    refine Oi (.b (r5.2 != r6.2)) ?_
    refine Pf (.b (r5.2 != r6.2)) hb22 ?_
    refine Om (.b (r5.2 != r6.2)) ?_
    rcases bft (r5.2 != r6.2) with hb23 | hb23
    ·replace hM:=ifT hM hb23
     refine On (want:=false) hb23 ?_
     refine On (want:=false) hb23 ?_
     refine On (want:=false) hb23 ?_
     refine On (want:=false) hb23 ?_
     refine Pt (.b true) hb23 ?_
     refine Om (.b true) ?_
     refine Og ?_
     refine Og ?_
     refine Og ?_
     refine zbS (v:=.b true) (e:=true) (by decide) rfl rfl rfl ?_
     refine Om (.b true) ?_
     refine Og ?_
     refine Og ?_
     refine Og ?_
     refine zbS (v:=.b true) (e:=true) (by decide) rfl rfl rfl ?_
     refine Om (.b true) ?_
     refine Og ?_
     refine Og ?_
     refine Og ?_
     refine Og ?_
     refine zbS (v:=.b true) (e:=true) (by decide) rfl rfl rfl ?_
     refine Ni ?_
     exact zak true (.k (.k (.k (.k (.k (.k .nil)))))) ⟨(hS.keep [] rfl).up (by omega),hM⟩
    ·replace hM:=ifF hM hb23
     refine Oy (want:=false) hb23 ?_
     refine Om (.sl .no 1 (r7.1.map cI)) ?_
     refine Oy (want:=false) hb23 ?_
     refine Om (.sl .no 1 (r8.1.map cI)) ?_
     refine Oy (want:=false) hb23 ?_
     obtain ⟨r24,hr24,hM⟩:=zaf hM
     refine zat (bs:=[.sl .no 1 (r7.1.map cI),.sl .no 1 (r8.1.map cI)]) (by decide) rfl rfl ((zcl hr24).le (.k (.k .nil))) ?_
     refine Oy (want:=false) hb23 ?_
     refine zfw (e:=r24) (by decide) rfl ?_
     refine Pf (.b (!r24)) hb23 ?_
     refine Om (.b (!r24)) ?_
     rcases bft (!r24) with hb25 | hb25
     ·replace hM:=ifT hM hb25
      refine On (want:=false) hb25 ?_
      refine On (want:=false) hb25 ?_
      refine On (want:=false) hb25 ?_
      refine Pt (.b true) hb25 ?_
      refine Om (.b true) ?_
      refine Og ?_
      refine Og ?_
      refine Og ?_
      refine zbS (v:=.b true) (e:=true) (by decide) rfl rfl rfl ?_
      refine Om (.b true) ?_
      refine Og ?_
      refine Og ?_
      refine Og ?_
      refine Og ?_
      refine zbS (v:=.b true) (e:=true) (by decide) rfl rfl rfl ?_
      refine Ni ?_
      exact zak true (.k (.k (.k (.k (.k (.k .nil)))))) ⟨(hS.keep [] rfl).up (by omega),hM⟩
     ·replace hM:=ifF hM hb25
      refine Oy (want:=false) hb25 ?_
      refine Om (.i r7.2) ?_
      refine Oy (want:=false) hb25 ?_
      refine Om (.i r8.2) ?_
      refine Oy (want:=false) hb25 ?_
      refine Oi (.b (r7.2 != r8.2)) ?_
      refine Pf (.b (r7.2 != r8.2)) hb25 ?_
      refine Om (.b (r7.2 != r8.2)) ?_
      rcases bft (r7.2 != r8.2) with hb26 | hb26
      ·replace hM:=ifT hM hb26
       refine On (want:=false) hb26 ?_
       refine On (want:=false) hb26 ?_
       refine On (want:=false) hb26 ?_
       refine Pt (.b true) hb26 ?_
       refine Om (.b true) ?_
       refine Og ?_
       refine Og ?_
       refine Og ?_
       refine Og ?_
       refine zbS (v:=.b true) (e:=true) (by decide) rfl rfl rfl ?_
       refine Ni ?_
       exact zak true (.k (.k (.k (.k (.k (.k .nil)))))) ⟨(hS.keep [] rfl).up (by omega),hM⟩
      ·replace hM:=ifF hM hb26
       refine Oy (want:=false) hb26 ?_
       refine Om (.i r9.2.2) ?_
       refine Oy (want:=false) hb26 ?_
       refine Om (.i r6.2) ?_
       refine Oy (want:=false) hb26 ?_
       refine Oi (.b (r9.2.2 != r6.2)) ?_
       refine Pf (.b (r9.2.2 != r6.2)) hb26 ?_
       refine Om (.b (r9.2.2 != r6.2)) ?_
       rcases bft (r9.2.2 != r6.2) with hb27 | hb27
       ·replace hM:=ifT hM hb27
        refine On (want:=false) hb27 ?_
        refine On (want:=false) hb27 ?_
        refine On (want:=false) hb27 ?_
        refine On (want:=false) hb27 ?_
        refine Pt (.b true) hb27 ?_
        refine Ni ?_
        exact zak true (.k (.k (.k (.k (.k (.k .nil)))))) ⟨(hS.keep [] rfl).up (by omega),hM⟩
       ·replace hM:=ifF hM hb27
        refine Oy (want:=false) hb27 ?_
        refine Olg (.agg (Box.cells r4)) za4 ?_
        refine Oy (want:=false) hb27 ?_
        refine Olg (.agg (Box.cells a0)) za4 ?_
        refine Oy (want:=false) hb27 ?_
        obtain ⟨r28,hr28,hM⟩:=zaf hM
        refine zat (bs:=[.agg (Box.cells r4),.agg (Box.cells a0)]) (by decide) rfl rfl ((zo4 hr28).le (.k (.k .nil))) ?_
        refine Oy (want:=false) hb27 ?_
        refine zfw (e:=r28) (by decide) rfl ?_
        refine Pf (.b (!r28)) hb27 ?_
        refine Ni ?_
        exact zak (!r28) (.k (.k (.k (.k (.k (.k .nil)))))) ⟨(hS.keep [] rfl).up (by omega),hM⟩
end Go.Proofs.YtenogpmlhpcibaaGreat
