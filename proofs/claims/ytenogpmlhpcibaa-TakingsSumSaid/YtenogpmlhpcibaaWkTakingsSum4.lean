/-
  The code returns what the functions say (printed by gen.py).
  Conditions: none.
-/
import Derived.Test.YtenogpmlhpcibaaWkTakingsSum3
import Derived.Test.YtenogpmlhpcibaaSh
import Derived.Test.YtenogpmlhpcibaaKs
import Derived.Test.YtenogpmlhpcibaaEn
set_option linter.all false
namespace Go.Proofs.Ytenogpmlhpcibaa
open Go Go.AM Go.Law
set_option linter.unusedVariables false
set_option maxRecDepth 4000
set_option maxHeartbeats 4000000
theorem zny {n:Nat} {a0:List Box} {r:Int×Int×Int×Int} (hM:zeo n a0=some r):zaD Try.prog 42 [.sl .no 8 (a0.map Box.cells)] (.tup [.i r.1,.i r.2.1,.i r.2.2.1,.i r.2.2.2]):=by
 refine zak mixed Try.func42 rfl (by decide) Try.ntmps42 (by simp) ?pure fun H0 g hf=>?_
 case pure=>exact .tup _ (zab (.v _) (zab (.v _) (zab (.v _) (zab (.v _) zaG))))
 rw [zai]
 change wpA _ _ _ _ (Fr.of [(0,.sl .no 8 (a0.map Box.cells))]) H0 g
 have hS:=St.start hf
 refine Sq ?_
 refine Rg 4 ?_
 refine Oa (.i 0) ?_
 refine Oa (.i 0) ?_
 refine Oa (.i 0) ?_
 refine Oa (.i 0) ?_
 refine Ni ?_
 refine Ws ?_
 refine Sq ?_
 refine Sq ?_
 refine Rg 3 ?_
 refine Om (.sl .no 8 (a0.map Box.cells)) ?_
 refine zbi (n:=a0.length) (by decide) rfl (List.length_map _) zf9 ?_
 refine Oi (.b (decide ((a0.length:Int)>5))) ?_
 refine Ni ?_
 refine Ws ?_
 rcases bft (decide ((a0.length:Int)>5)) with hb1 | hb1
 ·replace hM:=ifT hM hb1
  refine Ct hb1 ?_
  refine Sq ?_
  refine Rg 4 ?_
  refine Oa (.i 0) ?_
  refine Oa (.i 0) ?_
  refine Oa (.i 0) ?_
  refine Oa (.i 2) ?_
  refine Ni ?_
  refine Ws ?_
  refine zaQ ?_
  refine zap ?_
  refine zaY (x:=.tup [.i 0,.i 0,.i 0,.i 2]) (f:=fun r=>.tup [.i r.1,.i r.2.1,.i r.2.2.1,.i r.2.2.2]) (.inr rfl) ?_ (.refl _) (Option.some.inj hM) hS
  exact (zfX (zae (x:=.i 0) rfl) (zae (x:=.i 0) rfl) (zae (x:=.i 0) rfl) (zae (x:=.i 2) rfl))
 ·replace hM:=ifF hM hb1
  refine Cf hb1 ?_
  refine zax ?_
  refine Ws ?_
  refine zaW (J:=Int×Int×Int) (fun j=>[(0,.sl .no 8 (a0.map Box.cells)),(2,.i j.1),(3,.i j.2.1),(4,.i j.2.2)]) (fun j H' g'=>St (·<g) H0 [] H' g'/\zdU n a0 j.1 j.2.1 j.2.2=some r) ?_ ?_
  ·rintro ⟨v2,v3,v4⟩ H g1 ⟨hS,hM⟩
   change wpA _ _ _ _ (Fr.of [(0,.sl .no 8 (a0.map Box.cells)),(2,.i v2),(3,.i v3),(4,.i v4)]) _ _
   replace hS:St (·<g) H0 [] H g1:=hS
   replace hM:zdU n a0 v2 v3 v4=some r:=hM
   refine zaW (J:=Int×Int×Int) (fun j=>[(2,.i j.1),(3,.i j.2.1),(4,.i j.2.2)]) (fun j H' g'=>St (·<g) H0 [] H' g'/\zf7 j.1 j.2.1 j.2.2=some r) ?_ ?_
   ·rintro ⟨v5,v6,v7⟩ H g2 ⟨hS,hM⟩
    change wpA _ _ _ _ (Fr.of [(2,.i v5),(3,.i v6),(4,.i v7)]) _ _
    replace hS:St (·<g) H0 [] H g2:=hS
    replace hM:zf7 v5 v6 v7=some r:=hM
    refine Sq ?_
    refine Rg 7 ?_
    refine Om (.i v5) ?_
    refine Om (.i v6) ?_
    refine Om (.i v7) ?_
    refine Oa (.i v5) ?_
    refine Oa (.i v6) ?_
    refine Oa (.i v7) ?_
    refine Oa (.i 0) ?_
    refine Ni ?_
    refine Ws ?_
    refine zaQ ?_
    refine zaY (x:=.tup [.i v5,.i v6,.i v7,.i 0]) (f:=fun r=>.tup [.i r.1,.i r.2.1,.i r.2.2.1,.i r.2.2.2]) (.inr rfl) ?_ (.refl _) (Option.some.inj hM) hS
    exact (zfX (zae (x:=.i v5) rfl) (zae (x:=.i v6) rfl) (zae (x:=.i v7) rfl) (zae (x:=.i 0) rfl))
   ·refine Sq ?_
    refine Rg 3 ?_
    refine Om (.sl .no 8 (a0.map Box.cells)) ?_
    refine zbi (n:=a0.length) (by decide) rfl (List.length_map _) zf9 ?_
    refine Om (.i 0) ?_
    refine Ni ?_
    refine Ws ?_
    refine zao ?_
    refine zbj (V:=Int×Int×Int×Int) (fun v=>[(2,.i v.1),(3,.i v.2.1),(4,.i v.2.2.1),(32,.sl .no 8 (a0.map Box.cells)),(33,.i (a0.length:Int)),(34,.i v.2.2.2)]) (fun v m3 H' g'=>St (·<g) H0 [] H' g'/\zcj n a0 m3 v.1 v.2.1 v.2.2.1 v.2.2.2=some r) (n:=n) (v2,v3,v4,0) (.k (.k (.k (.k (.k (.k .nil)))))) ⟨(hS.keep [] rfl).up (by omega),hM⟩ ?_
    rintro ⟨v8,v9,v10,v11⟩ m3 H g3 ⟨hS,hM⟩
    obtain _ | m3:=m3
    ·exact nomatch (show none=some _ from hM)
    change wpA _ _ _ _ (Fr.of [(2,.i v8),(3,.i v9),(4,.i v10),(32,.sl .no 8 (a0.map Box.cells)),(33,.i (a0.length:Int)),(34,.i v11)]) _ _
    replace hS:St (·<g) H0 [] H g3:=hS
    replace hM:ze2 n a0 (zcj n a0 m3) v8 v9 v10 v11=some r:=hM
    refine Sq ?_
    refine Rg 1 ?_
    refine Oi (.b (decide (v11<(a0.length:Int)))) ?_
    refine Ni ?_
    refine Ws ?_
    refine Sq ?_
    rcases bft (decide (v11<(a0.length:Int))) with hb12 | hb12
    ·replace hM:=ifT hM hb12
     refine Ct hb12 ?_
     refine zax ?_
     refine Ws ?_
     refine zaW (J:=Int×Int×Int) (fun j=>[(2,.i j.1),(3,.i j.2.1),(4,.i j.2.2),(32,.sl .no 8 (a0.map Box.cells)),(33,.i (a0.length:Int)),(34,.i v11)]) (fun j H' g'=>St (·<g) H0 [] H' g'/\zeO (zcj n a0 m3) v11 j.1 j.2.1 j.2.2=some r) ?_ ?_
     ·rintro ⟨v13,v14,v15⟩ H g4 ⟨hS,hM⟩
      change wpA _ _ _ _ (Fr.of [(2,.i v13),(3,.i v14),(4,.i v15),(32,.sl .no 8 (a0.map Box.cells)),(33,.i (a0.length:Int)),(34,.i v11)]) _ _
      replace hS:St (·<g) H0 [] H g4:=hS
      replace hM:zeO (zcj n a0 m3) v11 v13 v14 v15=some r:=hM
      refine Rg 2 ?_
      refine Oi (.i (w64 (v11+1))) ?_
      refine Om (.i (w64 (v11+1))) ?_
      refine Ni ?_
      exact za1 (v13,v14,v15,w64 (v11+1)) (Nat.lt_succ_self _) (.k (.k (.k (.k (.k (.k .nil)))))) ⟨(hS.keep [] rfl).up (by omega),hM⟩
     ·refine zao ?_
      refine Sq ?_
      refine Rg 4 ?_
      obtain ⟨x16,hx16,hM⟩:=zaf hM
      refine zaL (xs:=a0) (f:=Box.cells) (z:=v11) (u:=x16) (by decide) rfl rfl zhi hx16 ?_
      refine Olg (.agg (Box.cells x16)) za5 ?_
      refine zbP hS (by decide) zgU (by omega) fun H hS=>?_
      refine za2 (v:=.agg (Box.cells x16)) (ns:=(Box.cells x16)) (L':=[(g3+1+2,.cells (Box.cells x16))]) 0 hS rfl rfl .no rfl rfl ziI nlb rfl fun H hS=>?_
      refine Ni ?_
      refine zbd (L':=[]) 0 10 hS rfl rfl rfl fun H hS=>?_
      refine Ws ?_
      refine Sq ?_
      refine Rg 11 ?_
      refine Olg (.agg (Box.cells x16)) za5 ?_
      obtain ⟨r17,hr17,hM⟩:=zaf hM
      refine zau (bs:=[.agg (Box.cells x16)]) (by decide) rfl rfl ((zi4 hr17).le (.k .nil)) ?_
      refine Om (.tup [.i r17.1,.i r17.2.1,.i r17.2.2.1,.i r17.2.2.2]) ?_
      refine Ox (.i r17.1) ?_
      refine Ox (.i r17.2.1) ?_
      refine Ox (.i r17.2.2.1) ?_
      refine Ox (.i r17.2.2.2) ?_
      refine Oa (.i r17.1) ?_
      refine Oa (.i r17.2.1) ?_
      refine Oa (.i r17.2.2.1) ?_
      refine Oa (.i r17.2.2.2) ?_
      refine Ni ?_
      refine Ws ?_
      refine Sq ?_
      refine Rg 4 ?_
      refine Om (.i v8) ?_
      refine Om (.i r17.1) ?_
      refine Oi (.i (w64 (v8+r17.1))) ?_
      refine Oa (.i (w64 (v8+r17.1))) ?_
      refine Ni ?_
      refine Ws ?_
      refine Sq ?_
      refine Rg 7 ?_
      refine Olg (.agg (Box.cells x16)) za5 ?_
      obtain ⟨r18,hr18,hM⟩:=zaf hM
      refine zau (bs:=[.agg (Box.cells x16)]) (by decide) rfl rfl ((zhA hr18).le (.k .nil)) ?_
      refine Om (.tup [.i r18.1,.i r18.2]) ?_
      refine Ox (.i r18.1) ?_
      refine Ox (.i r18.2) ?_
      refine Oa (.i r18.1) ?_
      refine Oa (.i r18.2) ?_
      refine Ni ?_
      refine Ws ?_
      refine Sq ?_
      refine Rg 2 ?_
      refine Om (.i r18.2) ?_
      refine Oi (.b (r18.2==0)) ?_
      refine Ni ?_
      refine Ws ?_
      rcases bft (r18.2==0) with hb19 | hb19
      ·replace hM:=ifT hM hb19
       refine Ct hb19 ?_
       refine Rg 4 ?_
       refine Om (.i v9) ?_
       refine Om (.i r18.1) ?_
       refine Oi (.i (w64 (v9+r18.1))) ?_
       refine Oa (.i (w64 (v9+r18.1))) ?_
       refine Ni ?_
       refine zag ?_
       exact zam (w64 (v8+r17.1),w64 (v9+r18.1),v10) (.k (.k (.k (.k (.k (.k .nil)))))) ⟨(hS.keep [] rfl).up (by omega),hM⟩
      ·replace hM:=ifF hM hb19
       refine Cf hb19 ?_
       refine Rg 3 ?_
       refine Om (.i v10) ?_
       refine Oi (.i (w64 (v10+1))) ?_
       refine Oa (.i (w64 (v10+1))) ?_
       refine Ni ?_
       refine zag ?_
       exact zam (w64 (v8+r17.1),v9,w64 (v10+1)) (.k (.k (.k (.k (.k (.k .nil)))))) ⟨(hS.keep [] rfl).up (by omega),hM⟩
    ·replace hM:=ifF hM hb12
     refine Cf hb12 ?_
     refine za8 ?_
     refine zal ?_
     refine zaj ?_
     refine zar ?_
     exact zam (v8,v9,v10) (.k (.k (.k .nil))) ⟨(hS.keep [] rfl).up (by omega),hM⟩
  ·refine Sq ?_
   refine Rg 3 ?_
   refine Om (.sl .no 8 (a0.map Box.cells)) ?_
   refine zbi (n:=a0.length) (by decide) rfl (List.length_map _) zf9 ?_
   refine Om (.i 0) ?_
   refine Ni ?_
   refine Ws ?_
   refine zao ?_
   refine zbj (V:=Int×Int×Int×Int) (fun v=>[(0,.sl .no 8 (a0.map Box.cells)),(2,.i v.1),(3,.i v.2.1),(4,.i v.2.2.1),(20,.sl .no 8 (a0.map Box.cells)),(21,.i (a0.length:Int)),(22,.i v.2.2.2)]) (fun v m5 H' g'=>St (·<g) H0 [] H' g'/\zbS n a0 m5 v.1 v.2.1 v.2.2.1 v.2.2.2=some r) (n:=n) (0,0,0,0) (.k (.k (.k (.k (.k (.k (.k .nil))))))) ⟨(hS.keep [] rfl).up (by omega),hM⟩ ?_
   rintro ⟨v20,v21,v22,v23⟩ m5 H g5 ⟨hS,hM⟩
   obtain _ | m5:=m5
   ·exact nomatch (show none=some _ from hM)
   change wpA _ _ _ _ (Fr.of [(0,.sl .no 8 (a0.map Box.cells)),(2,.i v20),(3,.i v21),(4,.i v22),(20,.sl .no 8 (a0.map Box.cells)),(21,.i (a0.length:Int)),(22,.i v23)]) _ _
   replace hS:St (·<g) H0 [] H g5:=hS
   replace hM:zdR n a0 (zbS n a0 m5) v20 v21 v22 v23=some r:=hM
   refine Sq ?_
   refine Rg 1 ?_
   refine Oi (.b (decide (v23<(a0.length:Int)))) ?_
   refine Ni ?_
   refine Ws ?_
   refine Sq ?_
   rcases bft (decide (v23<(a0.length:Int))) with hb24 | hb24
   ·replace hM:=ifT hM hb24
    refine Ct hb24 ?_
    refine zax ?_
    refine Ws ?_
    refine Sq ?_
    refine zao ?_
    refine Sq ?_
    refine Rg 4 ?_
    obtain ⟨x25,hx25,hM⟩:=zaf hM
    refine zaL (xs:=a0) (f:=Box.cells) (z:=v23) (u:=x25) (by decide) rfl rfl zhi hx25 ?_
    refine Olg (.agg (Box.cells x25)) za5 ?_
    refine zbP hS (by decide) zgU (by omega) fun H hS=>?_
    refine za2 (v:=.agg (Box.cells x25)) (ns:=(Box.cells x25)) (L':=[(g5+1+2,.cells (Box.cells x25))]) 0 hS rfl rfl .no rfl rfl ziI nlb rfl fun H hS=>?_
    refine Ni ?_
    refine zbd (L':=[]) 0 7 hS rfl rfl rfl fun H hS=>?_
    refine Ws ?_
    refine Sq ?_
    refine Rg 3 ?_
    refine Olg (.agg (Box.cells x25)) za5 ?_
    obtain ⟨r26,hr26,hM⟩:=zaf hM
    refine zau (bs:=[.agg (Box.cells x25)]) (by decide) rfl rfl ((zin hr26).le (.k .nil)) ?_
    refine Oa (.i r26) ?_
    refine Ni ?_
    refine Ws ?_
    refine Sq ?_
    refine Rg 2 ?_
    refine Om (.i r26) ?_
    refine Oi (.b (r26 != 0)) ?_
    refine Ni ?_
    refine Ws ?_
    rcases bft (r26 != 0) with hb27 | hb27
    ·replace hM:=ifT hM hb27
     refine Ct hb27 ?_
     refine Sq ?_
     refine Rg 5 ?_
     refine Om (.i r26) ?_
     refine Oa (.i 0) ?_
     refine Oa (.i 0) ?_
     refine Oa (.i 0) ?_
     refine Oa (.i r26) ?_
     refine Ni ?_
     refine Ws ?_
     refine zaQ ?_
     refine zaZ ?_
     refine zap ?_
     refine zbs ?_
     refine zaZ ?_
     refine zbJ ?_
     refine zaY (x:=.tup [.i 0,.i 0,.i 0,.i r26]) (f:=fun r=>.tup [.i r.1,.i r.2.1,.i r.2.2.1,.i r.2.2.2]) (.inr rfl) ?_ (.refl _) (Option.some.inj hM) hS
     exact (zfX (zae (x:=.i 0) rfl) (zae (x:=.i 0) rfl) (zae (x:=.i 0) rfl) (zae (x:=.i r26) rfl))
    ·replace hM:=ifF hM hb27
     refine Cf hb27 ?_
     refine zax ?_
     refine zag ?_
     refine Ws ?_
     refine Rg 2 ?_
     refine Oi (.i (w64 (v23+1))) ?_
     refine Om (.i (w64 (v23+1))) ?_
     refine Ni ?_
     exact za1 (v20,v21,v22,w64 (v23+1)) (Nat.lt_succ_self _) (.k (.k (.k (.k (.k (.k (.k .nil))))))) ⟨(hS.keep [] rfl).up (by omega),hM⟩
   ·replace hM:=ifF hM hb24
    refine Cf hb24 ?_
    refine za8 ?_
    refine zal ?_
    refine zaj ?_
    refine zar ?_
    exact zam (v20,v21,v22) (.k (.k (.k (.k .nil)))) ⟨(hS.keep [] rfl).up (by omega),hM⟩
theorem zkm {n:Nat} {a0:List Int} {r:Bool} (hM:zfq n a0=some r):zaD Try.prog 141 [.sl .no 1 (a0.map cI)] (.b r):=by
 refine zak mixed Try.func141 rfl (by decide) Try.ntmps141 (by simp) ?pure fun H0 g hf=>?_
 case pure=>exact .v _
 rw [zai]
 change wpA _ _ _ _ (Fr.of [(0,.sl .no 1 (a0.map cI))]) H0 g
 have hS:=St.start hf
 refine Sq ?_
 refine Rg 1 ?_
 refine Oa (.b false) ?_
 refine Ni ?_
 refine Ws ?_
 refine zaW (J:=Unit) (fun j=>[(0,.sl .no 1 (a0.map cI))]) (fun j H' g'=>St (·<g) H0 [] H' g'/\zcq n a0=some r) ?_ ?_
 ·rintro _ H g1 ⟨hS,hM⟩
  change wpA _ _ _ _ (Fr.of [(0,.sl .no 1 (a0.map cI))]) _ _
  replace hS:St (·<g) H0 [] H g1:=hS
  replace hM:zcq n a0=some r:=hM
  refine Sq ?_
  refine Rg 4 ?_
  refine Om (.sl .no 1 (a0.map cI)) ?_
  obtain ⟨r1,hr1,hM⟩:=zaf hM
  refine zau (bs:=[.sl .no 1 (a0.map cI)]) (by decide) rfl rfl ((zhV hr1).le (.k .nil)) ?_
  refine Oi (.b (decide (r1<=2))) ?_
  refine Oa (.b (decide (r1<=2))) ?_
  refine Ni ?_
  refine Ws ?_
  refine zaQ ?_
  refine zaY (x:=.b (decide (r1<=2))) (f:=fun r=>.b r) (.inr rfl) ?_ (.refl _) (Option.some.inj hM) hS
  exact (zaA (zae (x:=.b (decide (r1<=2))) rfl))
 ·refine Sq ?_
  refine Rg 1 ?_
  refine Oa (.i 0) ?_
  refine Ni ?_
  refine Ws ?_
  refine zao ?_
  refine zbj (V:=Int) (fun v=>[(0,.sl .no 1 (a0.map cI)),(3,.i v)]) (fun v m2 H' g'=>St (·<g) H0 [] H' g'/\zb0 n a0 m2 v=some r) (n:=n) 0 (.k (.k .nil)) ⟨(hS.keep [] rfl).up (by omega),hM⟩ ?_
  rintro v2 m2 H g2 ⟨hS,hM⟩
  obtain _ | m2:=m2
  ·exact nomatch (show none=some _ from hM)
  change wpA _ _ _ _ (Fr.of [(0,.sl .no 1 (a0.map cI)),(3,.i v2)]) _ _
  replace hS:St (·<g) H0 [] H g2:=hS
  replace hM:zdi n a0 (zb0 n a0 m2) v2=some r:=hM
  refine Sq ?_
  refine Sq ?_
  refine Rg 4 ?_
  refine Om (.i v2) ?_
  refine Om (.sl .no 1 (a0.map cI)) ?_
  refine zbi (n:=a0.length) (by decide) rfl (List.length_map _) zaM ?_
  refine Oi (.b (decide (v2<(a0.length:Int)))) ?_
  refine Ni ?_
  refine Ws ?_
  rcases bft (decide (v2<(a0.length:Int))) with hb3 | hb3
  ·replace hM:=ifT hM hb3
   refine Ct hb3 ?_
   refine zax ?_
   refine Ws ?_
   refine Sq ?_
   refine zao ?_
   refine Sq ?_
   refine Rg 5 ?_
   refine Om (.sl .no 1 (a0.map cI)) ?_
   refine Om (.i v2) ?_
   obtain ⟨x4,hx4,hM⟩:=zaf hM
   refine zaL (xs:=a0) (f:=cI) (z:=v2) (u:=x4) (by decide) rfl rfl zaw hx4 ?_
   refine Olp (.i x4) zah zas ?_
   refine Oi (.b (decide (x4<0))) ?_
   refine Ni ?_
   refine Ws ?_
   rcases bft (decide (x4<0)) with hb5 | hb5
   ·replace hM:=ifT hM hb5
    refine Ct hb5 ?_
    refine Sq ?_
    refine Rg 1 ?_
    refine Oa (.b false) ?_
    refine Ni ?_
    refine Ws ?_
    refine zaQ ?_
    refine zaZ ?_
    refine zap ?_
    refine zbs ?_
    refine zaZ ?_
    refine zbJ ?_
    refine zaY (x:=.b false) (f:=fun r=>.b r) (.inr rfl) ?_ (.refl _) (Option.some.inj hM) hS
    exact (zaA (zae (x:=.b false) rfl))
   ·replace hM:=ifF hM hb5
    refine Cf hb5 ?_
    refine zax ?_
    refine zag ?_
    refine Ws ?_
    refine Rg 3 ?_
    refine Om (.i v2) ?_
    refine Oi (.i (w64 (v2+1))) ?_
    refine Oa (.i (w64 (v2+1))) ?_
    refine Ni ?_
    exact za1 (w64 (v2+1)) (Nat.lt_succ_self _) (.k (.k .nil)) ⟨(hS.keep [] rfl).up (by omega),hM⟩
  ·replace hM:=ifF hM hb3
   refine Cf hb3 ?_
   refine za8 ?_
   refine zal ?_
   refine zaj ?_
   refine zar ?_
   exact zam () (.k .nil) ⟨(hS.keep [] rfl).up (by omega),hM⟩
theorem zos {n:Nat} {a0:Box} {a1:List Int} {r:Bool} (hM:zke n a0 a1=some r):zaD Try.prog 142 [.agg (Box.cells a0),.sl .no 1 (a1.map cI)] (.b r):=by
 refine zak mixed Try.func142 rfl (by decide) Try.ntmps142 (by simp) ?pure fun H0 g hf=>?_
 case pure=>exact .v _
 rw [zai]
 change wpA _ _ _ _ (Fr.of [(0,.agg (Box.cells a0)),(1,.sl .no 1 (a1.map cI))]) H0 g
 have hS:=St.start hf
 refine Sq ?_
 refine Rg 2 ?_
 refine zcI (v:=.agg (Box.cells a0)) (cs:=(Box.cells a0)) hS (by decide) rfl rfl (by omega) fun H hS=>?_
 refine Oa (.b false) ?_
 refine Ni ?_
 refine zbd (L':=[]) 0 2 hS rfl rfl rfl fun H hS=>?_
 refine Ws ?_
 refine zaW (J:=Unit) (fun j=>[]) (fun j H' g'=>St (·<g) H0 [] H' g'/\zgH=some r) ?_ ?_
 ·rintro _ H g1 ⟨hS,hM⟩
  change wpA _ _ _ _ (Fr.of []) _ _
  replace hS:St (·<g) H0 [] H g1:=hS
  replace hM:zgH=some r:=hM
  refine Sq ?_
  refine Rg 1 ?_
  refine Oa (.b false) ?_
  refine Ni ?_
  refine Ws ?_
  refine zaQ ?_
  refine zaY (x:=.b false) (f:=fun r=>.b r) (.inr rfl) ?_ (.refl _) (Option.some.inj hM) hS
  exact (zaA (zae (x:=.b false) rfl))
 ·refine Sq ?_
  refine Rg 1 ?_
  refine Oa (.i 0) ?_
  refine Ni ?_
  refine Ws ?_
  refine zao ?_
  refine zbj (V:=Int) (fun v=>[(1,.sl .no 1 (a1.map cI)),(2,.ep (Box.cells a0)),(5,.i v)]) (fun v m2 H' g'=>St (·<g) H0 [] H' g'/\zdH a0 a1 m2 v=some r) (n:=n) 0 (.k (.k (.k .nil))) ⟨(hS.keep [] rfl).up (by omega),hM⟩ ?_
  rintro v1 m2 H g2 ⟨hS,hM⟩
  obtain _ | m2:=m2
  ·exact nomatch (show none=some _ from hM)
  change wpA _ _ _ _ (Fr.of [(1,.sl .no 1 (a1.map cI)),(2,.ep (Box.cells a0)),(5,.i v1)]) _ _
  replace hS:St (·<g) H0 [] H g2:=hS
  replace hM:zfr a0 a1 (zdH a0 a1 m2) v1=some r:=hM
  refine Sq ?_
  refine Sq ?_
  refine Rg 4 ?_
  refine Om (.i v1) ?_
  refine Om (.sl .no 1 (a1.map cI)) ?_
  refine zbi (n:=a1.length) (by decide) rfl (List.length_map _) zaM ?_
  refine Oi (.b (decide (v1<(a1.length:Int)))) ?_
  refine Ni ?_
  refine Ws ?_
  rcases bft (decide (v1<(a1.length:Int))) with hb2 | hb2
  ·replace hM:=ifT hM hb2
   refine Ct hb2 ?_
   refine zax ?_
   refine Ws ?_
   refine Sq ?_
   refine zao ?_
   refine Sq ?_
   have hS0:=hS
   refine zcg (n:=6) rfl (by kernel_rfl) ?_
   refine Olg (.agg (Box.cells a0)) za5 ?_
   refine Om (.sl .no 1 (a1.map cI)) ?_
   refine Om (.i v1) ?_
   obtain ⟨x3,hx3,hM⟩:=zaf hM
   refine zaL (xs:=a1) (f:=cI) (z:=v1) (u:=x3) (by decide) rfl rfl zaw hx3 ?_
   refine Olp (.i x3) zah zas ?_
   obtain ⟨r4,hr4,hM⟩:=zaf hM
   refine zau (bs:=[.agg (Box.cells a0),.i x3]) (by decide) rfl rfl ((zlP hr4).le (.k (.k .nil))) ?_
   refine Ni ?_
   refine Ws ?_
   rcases bft r4 with hb5 | hb5
   ·replace hM:=ifT hM hb5
    refine Ct hb5 ?_
    refine Sq ?_
    refine Rg 1 ?_
    refine Oa (.b true) ?_
    refine Ni ?_
    refine Ws ?_
    refine zaQ ?_
    refine zaZ ?_
    refine zap ?_
    refine zbs ?_
    refine zaZ ?_
    refine zbJ ?_
    refine zaY (x:=.b true) (f:=fun r=>.b r) (.inr rfl) ?_ (.refl _) (Option.some.inj hM) hS
    exact (zaA (zae (x:=.b true) rfl))
   ·replace hM:=ifF hM hb5
    refine Cf hb5 ?_
    refine zax ?_
    refine zag ?_
    refine Ws ?_
    refine Rg 3 ?_
    refine Om (.i v1) ?_
    refine Oi (.i (w64 (v1+1))) ?_
    refine Oa (.i (w64 (v1+1))) ?_
    refine Ni ?_
    exact za1 (w64 (v1+1)) (Nat.lt_succ_self _) (.k (.k (.k .nil))) ⟨(hS.keep [] rfl).up (by omega),hM⟩
  ·replace hM:=ifF hM hb2
   refine Cf hb2 ?_
   refine za8 ?_
   refine zal ?_
   refine zaj ?_
   refine zar ?_
   exact zam () .nil ⟨(hS.keep [] rfl).up (by omega),hM⟩
theorem zkn {n:Nat} {a0:Box} {r:(List (List Int))} (hM:zfs n a0=some r):zaD Try.prog 106 [.agg (Box.cells a0)] (.sl .no 1 (r.map (cL 1 cI))):=by
 refine zak mixed Try.func106 rfl (by decide) Try.ntmps106 (by simp) ?pure fun H0 g hf=>?_
 case pure=>exact .sl _ _ (zaC (fun x=>(zab (.sl _ _ (zaC (fun x=>(zab (.v _) zaG)))) zaG)))
 rw [zai]
 change wpA _ _ _ _ (Fr.of [(0,.agg (Box.cells a0))]) H0 g
 have hS:=St.start hf
 refine Sq ?_
 refine Rg 2 ?_
 refine zcI (v:=.agg (Box.cells a0)) (cs:=(Box.cells a0)) hS (by decide) rfl rfl (by omega) fun H hS=>?_
 refine Oa (.sl .nil 0 []) ?_
 refine Ni ?_
 refine zbd (L':=[]) 0 1 hS rfl rfl rfl fun H hS=>?_
 refine Ws ?_
 refine Sq ?_
 refine Rg 3 ?_
 refine Olg (.agg (Box.cells a0)) za5 ?_
 obtain ⟨r1,hr1,hM⟩:=zaf hM
 refine zau (bs:=[.agg (Box.cells a0)]) (by decide) rfl rfl ((zlG hr1).le (.k .nil)) ?_
 refine Oa (.sl .no 1 (r1.map cI)) ?_
 refine Ni ?_
 refine Ws ?_
 refine Sq ?_
 refine Rg 1 ?_
 refine Oa (.sl .nil 0 []) ?_
 refine Ni ?_
 refine zml [(1,.ep (Box.cells a0)),(3,.sl .no 1 (r1.map cI)),(4,.sl (.id (g+2+3+1)) 1 (([]:List Int).map cI))] 4 1 3 hS (by omega) (by decide) rfl (.k (.k (.k .nil))) fun H hS=>?_
 refine zaW (J:=(List Int)) (fun j=>[(1,.ep (Box.cells a0)),(3,.sl .no 1 (r1.map cI)),(4,.sl (.id (g+2+3+1)) 1 (j.map cI))]) (fun j H' g'=>St (·<g) H0 [(g+2+3+1,.row 3 j.length)] H' g'/\zcX n a0 r1 j=some r) ?_ ?_
 ·rintro v2 H g1 ⟨hS,hM⟩
  change wpA _ _ _ _ (Fr.of [(1,.ep (Box.cells a0)),(3,.sl .no 1 (r1.map cI)),(4,.sl (.id (g+2+3+1)) 1 (v2.map cI))]) _ _
  replace hS:St (·<g) H0 [(g+2+3+1,.row 3 v2.length)] H g1:=hS
  replace hM:zcX n a0 r1 v2=some r:=hM
  refine Sq ?_
  have hS0:=hS
  refine zcg (n:=9) rfl (by kernel_rfl) ?_
  refine Om (.sl (.id (g+2+3+1)) 1 (v2.map cI)) ?_
  obtain ⟨r3,hr3,hM⟩:=zaf hM
  refine zau (bs:=[.sl (.id (g+2+3+1)) 1 (v2.map cI),.sl .nil 0 []]) (by decide) rfl rfl ((zhX hr3).le (.cons (.sl _ _ _) (.cons (.sl0 .nil 1 0) .nil))) ?_
  refine Of ((Box.cells a0)) za7 ?_
  refine Olg (.agg (Wheel.cells a0.Wheel)) zbw ?_
  refine Om (.sl (.id (g+2+3+1)) 1 (v2.map cI)) ?_
  refine Om (.sl .no 1 (r1.map cI)) ?_
  obtain ⟨r4,hr4,hM⟩:=zaf hM
  refine zau (bs:=[.agg (Wheel.cells a0.Wheel),.sl (.id (g+2+3+1)) 1 (v2.map cI),.sl .no 1 (r1.map cI)]) (by decide) rfl rfl ((znx hr4).le (.k (.cons (.sl _ _ _) (.k .nil)))) ?_
  refine Oa (.sl .no 1 (r3.map (cL 1 cI))) ?_
  refine Oa (.sl .no 1 (r4.map (cL 1 cI))) ?_
  refine Ni ?_
  replace hS:=hS.keep (L':=[]) [false] rfl
  refine Ws ?_
  refine Sq ?_
  refine Rg 1 ?_
  refine Oa (.sl .nil 0 []) ?_
  refine Ni ?_
  refine zml [(1,.ep (Box.cells a0)),(3,.sl .no 1 (r1.map cI)),(6,.sl .no 1 (r3.map (cL 1 cI))),(7,.sl .no 1 (r4.map (cL 1 cI))),(8,.sl (.id (g1+9+1)) 1 (([]:List (List Int)).map (cL 1 cI)))] 8 1 22 hS (by omega) (by decide) rfl (.k (.k (.k (.k (.k .nil))))) fun H hS=>?_
  refine zaW (J:=(List (List Int))) (fun j=>[(8,.sl (.id (g1+9+1)) 1 (j.map (cL 1 cI)))]) (fun j H' g'=>St (·<g) H0 [(g1+9+1,.row 22 j.length)] H' g'/\zd7 j=some r) ?_ ?_
  ·rintro v5 H g2 ⟨hS,hM⟩
   change wpA _ _ _ _ (Fr.of [(8,.sl (.id (g1+9+1)) 1 (v5.map (cL 1 cI)))]) _ _
   replace hS:St (·<g) H0 [(g1+9+1,.row 22 v5.length)] H g2:=hS
   replace hM:zd7 v5=some r:=hM
   refine Sq ?_
   refine Rg 2 ?_
   refine Om (.sl (.id (g1+9+1)) 1 (v5.map (cL 1 cI))) ?_
   refine Oa (.sl (.id (g1+9+1)) 1 (v5.map (cL 1 cI))) ?_
   refine Ni ?_
   refine Ws ?_
   refine zaQ ?_
   refine zaY (x:=.sl (.id (g1+9+1)) 1 (v5.map (cL 1 cI))) (f:=fun r=>.sl .no 1 (r.map (cL 1 cI))) (.inr rfl) ?_ (.sl _ _ _) (Option.some.inj hM) hS
   exact (zaA (zae (x:=.sl (.id (g1+9+1)) 1 (v5.map (cL 1 cI))) rfl))
  ·refine Sq ?_
   refine Rg 1 ?_
   refine Oa (.i 0) ?_
   refine Ni ?_
   refine Ws ?_
   refine zao ?_
   refine zbj (V:=(List (List Int))×Int) (fun v=>[(1,.ep (Box.cells a0)),(3,.sl .no 1 (r1.map cI)),(6,.sl .no 1 (r3.map (cL 1 cI))),(7,.sl .no 1 (r4.map (cL 1 cI))),(8,.sl (.id (g1+9+1)) 1 (v.1.map (cL 1 cI))),(9,.i v.2)]) (fun v m3 H' g'=>St (·<g) H0 [(g1+9+1,.row 22 v.1.length)] H' g'/\zaN n a0 r1 r3 r4 m3 v.1 v.2=some r) (n:=n) (([]:List (List Int)),0) (.k (.k (.k (.k (.k (.k .nil)))))) ⟨(hS.keep [true] rfl).up (by omega),hM⟩ ?_
   rintro ⟨v6,v7⟩ m3 H g3 ⟨hS,hM⟩
   obtain _ | m3:=m3
   ·exact nomatch (show none=some _ from hM)
   change wpA _ _ _ _ (Fr.of [(1,.ep (Box.cells a0)),(3,.sl .no 1 (r1.map cI)),(6,.sl .no 1 (r3.map (cL 1 cI))),(7,.sl .no 1 (r4.map (cL 1 cI))),(8,.sl (.id (g1+9+1)) 1 (v6.map (cL 1 cI))),(9,.i v7)]) _ _
   replace hS:St (·<g) H0 [(g1+9+1,.row 22 v6.length)] H g3:=hS
   replace hM:zdk n a0 r1 r3 r4 (zaN n a0 r1 r3 r4 m3) v6 v7=some r:=hM
   refine Sq ?_
   refine Sq ?_
   refine Rg 4 ?_
   refine Om (.i v7) ?_
   refine Om (.sl .no 1 (r3.map (cL 1 cI))) ?_
   refine zbi (n:=r3.length) (by decide) rfl (List.length_map _) zjI ?_
   refine Oi (.b (decide (v7<(r3.length:Int)))) ?_
   refine Ni ?_
   refine Ws ?_
   rcases bft (decide (v7<(r3.length:Int))) with hb8 | hb8
   ·replace hM:=ifT hM hb8
    refine Ct hb8 ?_
    refine zax ?_
    refine Ws ?_
    refine zaW (J:=(List (List Int))) (fun j=>[(1,.ep (Box.cells a0)),(3,.sl .no 1 (r1.map cI)),(6,.sl .no 1 (r3.map (cL 1 cI))),(7,.sl .no 1 (r4.map (cL 1 cI))),(8,.sl (.id (g1+9+1)) 1 (j.map (cL 1 cI))),(9,.i v7)]) (fun j H' g'=>St (·<g) H0 [(g1+9+1,.row 22 j.length)] H' g'/\zcr (zaN n a0 r1 r3 r4 m3) v7 j=some r) ?_ ?_
    ·rintro v9 H g4 ⟨hS,hM⟩
     change wpA _ _ _ _ (Fr.of [(1,.ep (Box.cells a0)),(3,.sl .no 1 (r1.map cI)),(6,.sl .no 1 (r3.map (cL 1 cI))),(7,.sl .no 1 (r4.map (cL 1 cI))),(8,.sl (.id (g1+9+1)) 1 (v9.map (cL 1 cI))),(9,.i v7)]) _ _
     replace hS:St (·<g) H0 [(g1+9+1,.row 22 v9.length)] H g4:=hS
     replace hM:zcr (zaN n a0 r1 r3 r4 m3) v7 v9=some r:=hM
     refine Rg 3 ?_
     refine Om (.i v7) ?_
     refine Oi (.i (w64 (v7+1))) ?_
     refine Oa (.i (w64 (v7+1))) ?_
     refine Ni ?_
     exact za1 (v9,w64 (v7+1)) (Nat.lt_succ_self _) (.k (.k (.k (.k (.k (.k .nil)))))) ⟨(hS.keep [true] rfl).up (by omega),hM⟩
    ·refine zao ?_
     refine Sq ?_
     refine Rg 1 ?_
     refine Oa (.sl .nil 0 []) ?_
     refine Ni ?_
     refine zml [(1,.ep (Box.cells a0)),(3,.sl .no 1 (r1.map cI)),(6,.sl .no 1 (r3.map (cL 1 cI))),(7,.sl .no 1 (r4.map (cL 1 cI))),(8,.sl (.id (g1+9+1)) 1 (v6.map (cL 1 cI))),(9,.i v7),(10,.sl (.id (g3+4+1)) 1 (([]:List Int).map cI))] 10 1 3 hS (by omega) (by decide) rfl (.k (.k (.k (.k (.k (.k (.k .nil))))))) fun H hS=>?_
     refine zaW (J:=(List Int)) (fun j=>[(1,.ep (Box.cells a0)),(3,.sl .no 1 (r1.map cI)),(6,.sl .no 1 (r3.map (cL 1 cI))),(7,.sl .no 1 (r4.map (cL 1 cI))),(8,.sl (.id (g1+9+1)) 1 (v6.map (cL 1 cI))),(9,.i v7),(10,.sl (.id (g3+4+1)) 1 (j.map cI))]) (fun j H' g'=>St (·<g) H0 [(g3+4+1,.row 3 j.length),(g1+9+1,.row 22 v6.length)] H' g'/\zct n (zaN n a0 r1 r3 r4 m3) a0 r4 v6 v7 j=some r) ?_ ?_
     ·rintro v10 H g5 ⟨hS,hM⟩
      change wpA _ _ _ _ (Fr.of [(1,.ep (Box.cells a0)),(3,.sl .no 1 (r1.map cI)),(6,.sl .no 1 (r3.map (cL 1 cI))),(7,.sl .no 1 (r4.map (cL 1 cI))),(8,.sl (.id (g1+9+1)) 1 (v6.map (cL 1 cI))),(9,.i v7),(10,.sl (.id (g3+4+1)) 1 (v10.map cI))]) _ _
      replace hS:St (·<g) H0 [(g3+4+1,.row 3 v10.length),(g1+9+1,.row 22 v6.length)] H g5:=hS
      replace hM:zct n (zaN n a0 r1 r3 r4 m3) a0 r4 v6 v7 v10=some r:=hM
      refine zaW (J:=Bool) (fun j=>[(1,.ep (Box.cells a0)),(3,.sl .no 1 (r1.map cI)),(6,.sl .no 1 (r3.map (cL 1 cI))),(7,.sl .no 1 (r4.map (cL 1 cI))),(8,.sl (.id (g1+9+1)) 1 (v6.map (cL 1 cI))),(9,.i v7),(10,.sl (.id (g3+4+1)) 1 (v10.map cI)),(71,.b j)]) (fun j H' g'=>St (·<g) H0 [(g3+4+1,.row 3 v10.length),(g1+9+1,.row 22 v6.length)] H' g'/\zcs (zaN n a0 r1 r3 r4 m3) v6 v7 v10 j=some r) ?_ ?_
      ·rintro v11 H g6 ⟨hS,hM⟩
       change wpA _ _ _ _ (Fr.of [(1,.ep (Box.cells a0)),(3,.sl .no 1 (r1.map cI)),(6,.sl .no 1 (r3.map (cL 1 cI))),(7,.sl .no 1 (r4.map (cL 1 cI))),(8,.sl (.id (g1+9+1)) 1 (v6.map (cL 1 cI))),(9,.i v7),(10,.sl (.id (g3+4+1)) 1 (v10.map cI)),(71,.b v11)]) _ _
       replace hS:St (·<g) H0 [(g3+4+1,.row 3 v10.length),(g1+9+1,.row 22 v6.length)] H g6:=hS
       replace hM:zcs (zaN n a0 r1 r3 r4 m3) v6 v7 v10 v11=some r:=hM
       rcases bft v11 with hb12 | hb12
       ·replace hM:=ifT hM hb12
        refine Ct hb12 ?_
        refine Rg 5 ?_
        refine Om (.sl (.id (g1+9+1)) 1 (v6.map (cL 1 cI))) ?_
        refine Om (.sl (.id (g3+4+1)) 1 (v10.map cI)) ?_
        refine zjA (es:=[[.sl (.id (g3+4+1)) 1 (v10.map cI)]]) (es':=[[.sl .no 1 (v10.map cI)]]) hS (by decide) zd9 ziJ rfl ziK rfl (by decide) (by omega) (zp3 (zp4 (.cons (.sl _ _ _) .nil))) fun H hS=>?_
        obtain ⟨l13,hl13,hM⟩:=zaf hM
        refine zcp (xs:=v6) (ys:=([v10]:List (List Int))) (zs:=l13) (f:=(cL 1 cI)) (L':=[(g6+2,.row 22 1),(g3+4+1,.row 3 v10.length),(g1+9+1,.row 22 l13.length)]) 2 hS (by decide) rfl rfl rfl rfl .no zd9 ziJ ziK hl13 rfl fun H hS=>?_
        refine Oa (.sl (.id (g1+9+1)) 1 (l13.map (cL 1 cI))) ?_
        refine Ni ?_
        refine zag ?_
        exact zam l13 (.k (.k (.k (.k (.k (.k .nil)))))) ⟨(hS.keep [false,false,true] rfl).up (by omega),hM⟩
       ·replace hM:=ifF hM hb12
        refine Cf hb12 ?_
        refine zax ?_
        refine zag ?_
        exact zam v6 (.k (.k (.k (.k (.k (.k .nil)))))) ⟨(hS.keep [false,true] rfl).up (by omega),hM⟩
      ·have hS0:=hS
       refine zcg (n:=10) rfl (by kernel_rfl) ?_
       refine Om (.sl (.id (g3+4+1)) 1 (v10.map cI)) ?_
       obtain ⟨r14,hr14,hM⟩:=zaf hM
       refine zau (bs:=[.sl (.id (g3+4+1)) 1 (v10.map cI)]) (by decide) rfl rfl ((zkm hr14).le (.cons (.sl _ _ _) .nil)) ?_
       refine Om (.b r14) ?_
       rcases bft r14 with hb15 | hb15
       ·replace hM:=ifT hM hb15
        refine Oy (want:=true) hb15 ?_
        refine Olg (.agg (Box.cells a0)) za5 ?_
        refine Oy (want:=true) hb15 ?_
        refine Om (.sl .no 1 (r4.map (cL 1 cI))) ?_
        refine Oy (want:=true) hb15 ?_
        refine Om (.i v7) ?_
        refine Oy (want:=true) hb15 ?_
        obtain ⟨x16,hx16,hM⟩:=zaf hM
        refine zaL (xs:=r4) (f:=(cL 1 cI)) (z:=v7) (u:=x16) (by decide) rfl rfl zd9 hx16 ?_
        refine Oy (want:=true) hb15 ?_
        refine Olp (.sl .no 1 (x16.map cI)) zaq zaE ?_
        refine Oy (want:=true) hb15 ?_
        obtain ⟨r17,hr17,hM⟩:=zaf hM
        refine zau (bs:=[.agg (Box.cells a0),.sl .no 1 (x16.map cI)]) (by decide) rfl rfl ((zos hr17).le (.k (.k .nil))) ?_
        refine Pt (.b r17) hb15 ?_
        refine Ni ?_
        exact zam r17 (.k (.k (.k (.k (.k (.k (.k (.k .nil)))))))) ⟨(hS.keep [true,true] rfl).up (by omega),hM⟩
       ·replace hM:=ifF hM hb15
        refine On (want:=true) hb15 ?_
        refine On (want:=true) hb15 ?_
        refine On (want:=true) hb15 ?_
        refine On (want:=true) hb15 ?_
        refine On (want:=true) hb15 ?_
        refine On (want:=true) hb15 ?_
        refine Pf (.b false) hb15 ?_
        refine Ni ?_
        exact zam false (.k (.k (.k (.k (.k (.k (.k (.k .nil)))))))) ⟨(hS.keep [true,true] rfl).up (by omega),hM⟩
     ·refine Sq ?_
      refine Rg 1 ?_
      refine Oa (.i 0) ?_
      refine Ni ?_
      refine Ws ?_
      refine zao ?_
      refine zbj (V:=(List Int)×Int) (fun v=>[(1,.ep (Box.cells a0)),(3,.sl .no 1 (r1.map cI)),(6,.sl .no 1 (r3.map (cL 1 cI))),(7,.sl .no 1 (r4.map (cL 1 cI))),(8,.sl (.id (g1+9+1)) 1 (v6.map (cL 1 cI))),(9,.i v7),(10,.sl (.id (g3+4+1)) 1 (v.1.map cI)),(11,.i v.2)]) (fun v m7 H' g'=>St (·<g) H0 [(g3+4+1,.row 3 v.1.length),(g1+9+1,.row 22 v6.length)] H' g'/\zbu n (zaN n a0 r1 r3 r4 m3) a0 r1 r3 r4 v6 v7 m7 v.1 v.2=some r) (n:=n) (([]:List Int),0) (.k (.k (.k (.k (.k (.k (.k (.k .nil)))))))) ⟨(hS.keep [true,true] rfl).up (by omega),hM⟩ ?_
      rintro ⟨v18,v19⟩ m7 H g7 ⟨hS,hM⟩
      obtain _ | m7:=m7
      ·exact nomatch (show none=some _ from hM)
      change wpA _ _ _ _ (Fr.of [(1,.ep (Box.cells a0)),(3,.sl .no 1 (r1.map cI)),(6,.sl .no 1 (r3.map (cL 1 cI))),(7,.sl .no 1 (r4.map (cL 1 cI))),(8,.sl (.id (g1+9+1)) 1 (v6.map (cL 1 cI))),(9,.i v7),(10,.sl (.id (g3+4+1)) 1 (v18.map cI)),(11,.i v19)]) _ _
      replace hS:St (·<g) H0 [(g3+4+1,.row 3 v18.length),(g1+9+1,.row 22 v6.length)] H g7:=hS
      replace hM:zdj n (zaN n a0 r1 r3 r4 m3) a0 r1 r3 r4 v6 v7 (zbu n (zaN n a0 r1 r3 r4 m3) a0 r1 r3 r4 v6 v7 m7) v18 v19=some r:=hM
      refine Sq ?_
      refine Sq ?_
      refine Rg 4 ?_
      refine Om (.i v19) ?_
      refine Om (.sl .no 1 (r1.map cI)) ?_
      refine zbi (n:=r1.length) (by decide) rfl (List.length_map _) zaM ?_
      refine Oi (.b (decide (v19<(r1.length:Int)))) ?_
      refine Ni ?_
      refine Ws ?_
      rcases bft (decide (v19<(r1.length:Int))) with hb20 | hb20
      ·replace hM:=ifT hM hb20
       refine Ct hb20 ?_
       refine zax ?_
       refine Ws ?_
       refine Sq ?_
       refine zao ?_
       have hS0:=hS
       refine zcg (n:=16) rfl (by kernel_rfl) ?_
       refine Om (.sl (.id (g3+4+1)) 1 (v18.map cI)) ?_
       refine Om (.sl .no 1 (r3.map (cL 1 cI))) ?_
       refine Om (.i v7) ?_
       obtain ⟨x21,hx21,hM⟩:=zaf hM
       refine zaL (xs:=r3) (f:=(cL 1 cI)) (z:=v7) (u:=x21) (by decide) rfl rfl zd9 hx21 ?_
       refine Olp (.sl .no 1 (x21.map cI)) zaq zaE ?_
       refine Om (.i v19) ?_
       obtain ⟨x22,hx22,hM⟩:=zaf hM
       refine zaL (xs:=x21) (f:=cI) (z:=v19) (u:=x22) (by decide) rfl rfl zaw hx22 ?_
       refine Olp (.i x22) zah zas ?_
       refine Om (.sl .no 1 (r1.map cI)) ?_
       refine Om (.i v19) ?_
       obtain ⟨x23,hx23,hM⟩:=zaf hM
       refine zaL (xs:=r1) (f:=cI) (z:=v19) (u:=x23) (by decide) rfl rfl zaw hx23 ?_
       refine Olp (.i x23) zah zas ?_
       refine Oi (.i (w64 (x22-x23))) ?_
       refine zaV (es:=[[.i (w64 (x22-x23))]]) hS (by decide) zaw zbm rfl zbe rfl (by decide) (by omega) fun H hS=>?_
       obtain ⟨l24,hl24,hM⟩:=zaf hM
       refine zcp (xs:=v18) (ys:=([w64 (x22-x23)]:List Int)) (zs:=l24) (f:=cI) (L':=[(g7+4+13,.row 3 1),(g3+4+1,.row 3 l24.length),(g1+9+1,.row 22 v6.length)]) 1 hS (by decide) rfl rfl rfl rfl (.st hS0 0 rfl (by omega)) zaw zbm zbe hl24 rfl fun H hS=>?_
       refine Oa (.sl (.id (g3+4+1)) 1 (l24.map cI)) ?_
       refine Ni ?_
       refine zag ?_
       replace hS:=hS.keep (L':=[(g3+4+1,.row 3 l24.length),(g1+9+1,.row 22 v6.length)]) [false,true,true] rfl
       refine Ws ?_
       refine Rg 3 ?_
       refine Om (.i v19) ?_
       refine Oi (.i (w64 (v19+1))) ?_
       refine Oa (.i (w64 (v19+1))) ?_
       refine Ni ?_
       exact za1 (l24,w64 (v19+1)) (Nat.lt_succ_self _) (.k (.k (.k (.k (.k (.k (.k (.k .nil)))))))) ⟨(hS.keep [true,true] rfl).up (by omega),hM⟩
      ·replace hM:=ifF hM hb20
       refine Cf hb20 ?_
       refine za8 ?_
       refine zal ?_
       refine zaj ?_
       refine zar ?_
       exact zam v18 (.k (.k (.k (.k (.k (.k (.k .nil))))))) ⟨(hS.keep [true,true] rfl).up (by omega),hM⟩
   ·replace hM:=ifF hM hb8
    refine Cf hb8 ?_
    refine za8 ?_
    refine zal ?_
    refine zaj ?_
    refine zar ?_
    exact zam v6 (.k .nil) ⟨(hS.keep [true] rfl).up (by omega),hM⟩
 ·refine Sq ?_
  refine Rg 1 ?_
  refine Oa (.i 0) ?_
  refine Ni ?_
  refine Ws ?_
  refine zao ?_
  refine zbj (V:=(List Int)×Int) (fun v=>[(1,.ep (Box.cells a0)),(3,.sl .no 1 (r1.map cI)),(4,.sl (.id (g+2+3+1)) 1 (v.1.map cI)),(5,.i v.2)]) (fun v m8 H' g'=>St (·<g) H0 [(g+2+3+1,.row 3 v.1.length)] H' g'/\zbv n a0 r1 m8 v.1 v.2=some r) (n:=n) (([]:List Int),0) (.k (.k (.k (.k .nil)))) ⟨(hS.keep [true] rfl).up (by omega),hM⟩ ?_
  rintro ⟨v25,v26⟩ m8 H g8 ⟨hS,hM⟩
  obtain _ | m8:=m8
  ·exact nomatch (show none=some _ from hM)
  change wpA _ _ _ _ (Fr.of [(1,.ep (Box.cells a0)),(3,.sl .no 1 (r1.map cI)),(4,.sl (.id (g+2+3+1)) 1 (v25.map cI)),(5,.i v26)]) _ _
  replace hS:St (·<g) H0 [(g+2+3+1,.row 3 v25.length)] H g8:=hS
  replace hM:zdl n a0 r1 (zbv n a0 r1 m8) v25 v26=some r:=hM
  refine Sq ?_
  refine Sq ?_
  refine Rg 4 ?_
  refine Om (.i v26) ?_
  refine Om (.sl .no 1 (r1.map cI)) ?_
  refine zbi (n:=r1.length) (by decide) rfl (List.length_map _) zaM ?_
  refine Oi (.b (decide (v26<(r1.length:Int)))) ?_
  refine Ni ?_
  refine Ws ?_
  rcases bft (decide (v26<(r1.length:Int))) with hb27 | hb27
  ·replace hM:=ifT hM hb27
   refine Ct hb27 ?_
   refine zax ?_
   refine Ws ?_
   refine Sq ?_
   refine zao ?_
   refine Rg 9 ?_
   refine Om (.sl (.id (g+2+3+1)) 1 (v25.map cI)) ?_
   refine Om (.sl .no 1 (r1.map cI)) ?_
   refine Om (.i v26) ?_
   obtain ⟨x28,hx28,hM⟩:=zaf hM
   refine zaL (xs:=r1) (f:=cI) (z:=v26) (u:=x28) (by decide) rfl rfl zaw hx28 ?_
   refine Olp (.i x28) zah zas ?_
   refine Oi (.i (w64 (x28+2))) ?_
   refine zaV (es:=[[.i (w64 (x28+2))]]) hS (by decide) zaw zbm rfl zbe rfl (by decide) (by omega) fun H hS=>?_
   obtain ⟨l29,hl29,hM⟩:=zaf hM
   refine zcp (xs:=v25) (ys:=([w64 (x28+2)]:List Int)) (zs:=l29) (f:=cI) (L':=[(g8+4+6,.row 3 1),(g+2+3+1,.row 3 l29.length)]) 1 hS (by decide) rfl rfl rfl rfl .no zaw zbm zbe hl29 rfl fun H hS=>?_
   refine Oa (.sl (.id (g+2+3+1)) 1 (l29.map cI)) ?_
   refine Ni ?_
   refine zag ?_
   replace hS:=hS.keep (L':=[(g+2+3+1,.row 3 l29.length)]) [false,true] rfl
   refine Ws ?_
   refine Rg 3 ?_
   refine Om (.i v26) ?_
   refine Oi (.i (w64 (v26+1))) ?_
   refine Oa (.i (w64 (v26+1))) ?_
   refine Ni ?_
   exact za1 (l29,w64 (v26+1)) (Nat.lt_succ_self _) (.k (.k (.k (.k .nil)))) ⟨(hS.keep [true] rfl).up (by omega),hM⟩
  ·replace hM:=ifF hM hb27
   refine Cf hb27 ?_
   refine za8 ?_
   refine zal ?_
   refine zaj ?_
   refine zar ?_
   exact zam v25 (.k (.k (.k .nil))) ⟨(hS.keep [true] rfl).up (by omega),hM⟩
theorem zlT {n:Nat} {a0:Box} {r:Int×Int} (hM:zft n a0=some r):zaD Try.prog 74 [.agg (Box.cells a0)] (.tup [.i r.1,.i r.2]):=by
 refine zak mixed Try.func74 rfl (by decide) Try.ntmps74 (by simp) ?pure fun H0 g hf=>?_
 case pure=>exact .tup _ (zab (.v _) (zab (.v _) zaG))
 rw [zai]
 change wpA _ _ _ _ (Fr.of [(0,.agg (Box.cells a0))]) H0 g
 have hS:=St.start hf
 refine Sq ?_
 refine Rg 3 ?_
 refine zcI (v:=.agg (Box.cells a0)) (cs:=(Box.cells a0)) hS (by decide) rfl rfl (by omega) fun H hS=>?_
 refine Oa (.i 0) ?_
 refine Oa (.i 0) ?_
 refine Ni ?_
 refine zbd (L':=[]) 0 1 hS rfl rfl rfl fun H hS=>?_
 refine Ws ?_
 refine Sq ?_
 refine Sq ?_
 refine Rg 3 ?_
 refine Olg (.agg (Box.cells a0)) za5 ?_
 obtain ⟨r1,hr1,hM⟩:=zaf hM
 refine zau (bs:=[.agg (Box.cells a0)]) (by decide) rfl rfl ((zhU hr1).le (.k .nil)) ?_
 refine Oa (.i r1) ?_
 refine Ni ?_
 refine Ws ?_
 refine Sq ?_
 refine Rg 2 ?_
 refine Om (.i r1) ?_
 refine Oi (.b (r1 != 0)) ?_
 refine Ni ?_
 refine Ws ?_
 rcases bft (r1 != 0) with hb2 | hb2
 ·replace hM:=ifT hM hb2
  refine Ct hb2 ?_
  refine Sq ?_
  refine Rg 3 ?_
  refine Om (.i r1) ?_
  refine Oa (.i 0) ?_
  refine Oa (.i r1) ?_
  refine Ni ?_
  refine Ws ?_
  refine zaQ ?_
  refine zap ?_
  refine zaY (x:=.tup [.i 0,.i r1]) (f:=fun r=>.tup [.i r.1,.i r.2]) (.inr rfl) ?_ (.refl _) (Option.some.inj hM) hS
  exact (zcP (zae (x:=.i 0) rfl) (zae (x:=.i r1) rfl))
 ·replace hM:=ifF hM hb2
  refine Cf hb2 ?_
  refine zax ?_
  refine Ws ?_
  refine Sq ?_
  refine Rg 3 ?_
  refine Olg (.agg (Box.cells a0)) za5 ?_
  obtain ⟨r3,hr3,hM⟩:=zaf hM
  refine zau (bs:=[.agg (Box.cells a0)]) (by decide) rfl rfl ((zkn hr3).le (.k .nil)) ?_
  refine Oa (.sl .no 1 (r3.map (cL 1 cI))) ?_
  refine Ni ?_
  refine Ws ?_
  refine Sq ?_
  refine Sq ?_
  refine Rg 3 ?_
  refine Om (.sl .no 1 (r3.map (cL 1 cI))) ?_
  refine zbi (n:=r3.length) (by decide) rfl (List.length_map _) zjI ?_
  refine Oi (.b ((r3.length:Int)==0)) ?_
  refine Ni ?_
  refine Ws ?_
  rcases bft ((r3.length:Int)==0) with hb4 | hb4
  ·replace hM:=ifT hM hb4
   refine Ct hb4 ?_
   refine Sq ?_
   refine Rg 2 ?_
   refine Oa (.i 0) ?_
   refine Oa (.i 3) ?_
   refine Ni ?_
   refine Ws ?_
   refine zaQ ?_
   refine zap ?_
   refine zaY (x:=.tup [.i 0,.i 3]) (f:=fun r=>.tup [.i r.1,.i r.2]) (.inr rfl) ?_ (.refl _) (Option.some.inj hM) hS
   exact (zcP (zae (x:=.i 0) rfl) (zae (x:=.i 3) rfl))
  ·replace hM:=ifF hM hb4
   refine Cf hb4 ?_
   refine zax ?_
   refine Ws ?_
   refine Sq ?_
   have hS0:=hS
   refine zcg (n:=7) rfl (by kernel_rfl) ?_
   refine Of ((Box.cells a0)) za7 ?_
   refine Olg (.agg (Wheel.cells a0.Wheel)) zbw ?_
   refine Om (.sl .no 1 (r3.map (cL 1 cI))) ?_
   obtain ⟨x5,hx5,hM⟩:=zaf hM
   refine zaL (xs:=r3) (f:=(cL 1 cI)) (z:=0) (u:=x5) (by decide) rfl rfl zd9 hx5 ?_
   refine Olp (.sl .no 1 (x5.map cI)) zaq zaE ?_
   obtain ⟨r6,hr6,hM⟩:=zaf hM
   refine zau (bs:=[.agg (Wheel.cells a0.Wheel),.sl .no 1 (x5.map cI)]) (by decide) rfl rfl ((zc2 hr6).le (.k (.k .nil))) ?_
   refine Oa (.i r6) ?_
   refine Ni ?_
   refine Ws ?_
   refine zaW (J:=Int) (fun j=>[(6,.i j)]) (fun j H' g'=>St (·<g) H0 [] H' g'/\ze3 j=some r) ?_ ?_
   ·rintro v7 H g1 ⟨hS,hM⟩
    change wpA _ _ _ _ (Fr.of [(6,.i v7)]) _ _
    replace hS:St (·<g) H0 [] H g1:=hS
    replace hM:ze3 v7=some r:=hM
    refine Sq ?_
    refine Rg 3 ?_
    refine Om (.i v7) ?_
    refine Oa (.i v7) ?_
    refine Oa (.i 0) ?_
    refine Ni ?_
    refine Ws ?_
    refine zaQ ?_
    refine zaY (x:=.tup [.i v7,.i 0]) (f:=fun r=>.tup [.i r.1,.i r.2]) (.inr rfl) ?_ (.refl _) (Option.some.inj hM) hS
    exact (zcP (zae (x:=.i v7) rfl) (zae (x:=.i 0) rfl))
   ·refine Sq ?_
    refine Rg 1 ?_
    refine Oa (.i 0) ?_
    refine Ni ?_
    refine Ws ?_
    refine zao ?_
    refine zbj (V:=Int×Int) (fun v=>[(1,.ep (Box.cells a0)),(5,.sl .no 1 (r3.map (cL 1 cI))),(6,.i v.1),(7,.i v.2)]) (fun v m2 H' g'=>St (·<g) H0 [] H' g'/\zcy n a0 r3 m2 v.1 v.2=some r) (n:=n) (r6,0) (.k (.k (.k (.k .nil)))) ⟨(hS.keep [] rfl).up (by omega),hM⟩ ?_
    rintro ⟨v8,v9⟩ m2 H g2 ⟨hS,hM⟩
    obtain _ | m2:=m2
    ·exact nomatch (show none=some _ from hM)
    change wpA _ _ _ _ (Fr.of [(1,.ep (Box.cells a0)),(5,.sl .no 1 (r3.map (cL 1 cI))),(6,.i v8),(7,.i v9)]) _ _
    replace hS:St (·<g) H0 [] H g2:=hS
    replace hM:zd8 n a0 r3 (zcy n a0 r3 m2) v8 v9=some r:=hM
    refine Sq ?_
    refine Sq ?_
    refine Rg 4 ?_
    refine Om (.i v9) ?_
    refine Om (.sl .no 1 (r3.map (cL 1 cI))) ?_
    refine zbi (n:=r3.length) (by decide) rfl (List.length_map _) zjI ?_
    refine Oi (.b (decide (v9<(r3.length:Int)))) ?_
    refine Ni ?_
    refine Ws ?_
    rcases bft (decide (v9<(r3.length:Int))) with hb10 | hb10
    ·replace hM:=ifT hM hb10
     refine Ct hb10 ?_
     refine zax ?_
     refine Ws ?_
     refine Sq ?_
     refine zao ?_
     have hS0:=hS
     refine zcg (n:=10) rfl (by kernel_rfl) ?_
     refine Om (.i v8) ?_
     refine Of ((Box.cells a0)) za7 ?_
     refine Olg (.agg (Wheel.cells a0.Wheel)) zbw ?_
     refine Om (.sl .no 1 (r3.map (cL 1 cI))) ?_
     refine Om (.i v9) ?_
     obtain ⟨x11,hx11,hM⟩:=zaf hM
     refine zaL (xs:=r3) (f:=(cL 1 cI)) (z:=v9) (u:=x11) (by decide) rfl rfl zd9 hx11 ?_
     refine Olp (.sl .no 1 (x11.map cI)) zaq zaE ?_
     obtain ⟨r12,hr12,hM⟩:=zaf hM
     refine zau (bs:=[.agg (Wheel.cells a0.Wheel),.sl .no 1 (x11.map cI)]) (by decide) rfl rfl ((zc2 hr12).le (.k (.k .nil))) ?_
     refine zwQ (v:=.i (min v8 r12)) (by decide) rfl ?_
     refine Oa (.i (min v8 r12)) ?_
     refine Ni ?_
     refine zag ?_
     refine Ws ?_
     refine Rg 3 ?_
     refine Om (.i v9) ?_
     refine Oi (.i (w64 (v9+1))) ?_
     refine Oa (.i (w64 (v9+1))) ?_
     refine Ni ?_
     exact za1 ((min v8 r12),w64 (v9+1)) (Nat.lt_succ_self _) (.k (.k (.k (.k .nil)))) ⟨(hS.keep [] rfl).up (by omega),hM⟩
    ·replace hM:=ifF hM hb10
     refine Cf hb10 ?_
     refine za8 ?_
     refine zal ?_
     refine zaj ?_
     refine zar ?_
     exact zam v8 (.k .nil) ⟨(hS.keep [] rfl).up (by omega),hM⟩
theorem zpx {n:Nat} {a0:List Box} {r:Int×Int×Int×Int} (hM:zhs n a0=some r):zaD Try.prog 43 [.sl .no 8 (a0.map Box.cells)] (.tup [.i r.1,.i r.2.1,.i r.2.2.1,.i r.2.2.2]):=by
 refine zak mixed Try.func43 rfl (by decide) Try.ntmps43 (by simp) ?pure fun H0 g hf=>?_
 case pure=>exact .tup _ (zab (.v _) (zab (.v _) (zab (.v _) (zab (.v _) zaG))))
 rw [zai]
 change wpA _ _ _ _ (Fr.of [(0,.sl .no 8 (a0.map Box.cells))]) H0 g
 have hS:=St.start hf
 refine Sq ?_
 refine Rg 4 ?_
 refine Oa (.i 0) ?_
 refine Oa (.i 0) ?_
 refine Oa (.i 0) ?_
 refine Oa (.i 0) ?_
 refine Ni ?_
 refine Ws ?_
 refine Sq ?_
 refine Sq ?_
 refine Rg 3 ?_
 refine Om (.sl .no 8 (a0.map Box.cells)) ?_
 refine zbi (n:=a0.length) (by decide) rfl (List.length_map _) zf9 ?_
 refine Oi (.b (decide ((a0.length:Int)>5))) ?_
 refine Ni ?_
 refine Ws ?_
 rcases bft (decide ((a0.length:Int)>5)) with hb1 | hb1
 ·replace hM:=ifT hM hb1
  refine Ct hb1 ?_
  refine Sq ?_
  refine Rg 4 ?_
  refine Oa (.i 0) ?_
  refine Oa (.i 0) ?_
  refine Oa (.i 0) ?_
  refine Oa (.i 2) ?_
  refine Ni ?_
  refine Ws ?_
  refine zaQ ?_
  refine zap ?_
  refine zaY (x:=.tup [.i 0,.i 0,.i 0,.i 2]) (f:=fun r=>.tup [.i r.1,.i r.2.1,.i r.2.2.1,.i r.2.2.2]) (.inr rfl) ?_ (.refl _) (Option.some.inj hM) hS
  exact (zfX (zae (x:=.i 0) rfl) (zae (x:=.i 0) rfl) (zae (x:=.i 0) rfl) (zae (x:=.i 2) rfl))
 ·replace hM:=ifF hM hb1
  refine Cf hb1 ?_
  refine zax ?_
  refine Ws ?_
  refine zaW (J:=Int×Int×Int) (fun j=>[(2,.i j.1),(3,.i j.2.1),(4,.i j.2.2)]) (fun j H' g'=>St (·<g) H0 [] H' g'/\zg9 j.1 j.2.1 j.2.2=some r) ?_ ?_
  ·rintro ⟨v2,v3,v4⟩ H g1 ⟨hS,hM⟩
   change wpA _ _ _ _ (Fr.of [(2,.i v2),(3,.i v3),(4,.i v4)]) _ _
   replace hS:St (·<g) H0 [] H g1:=hS
   replace hM:zg9 v2 v3 v4=some r:=hM
   refine Sq ?_
   refine Rg 7 ?_
   refine Om (.i v2) ?_
   refine Om (.i v3) ?_
   refine Om (.i v4) ?_
   refine Oa (.i v2) ?_
   refine Oa (.i v3) ?_
   refine Oa (.i v4) ?_
   refine Oa (.i 0) ?_
   refine Ni ?_
   refine Ws ?_
   refine zaQ ?_
   refine zaY (x:=.tup [.i v2,.i v3,.i v4,.i 0]) (f:=fun r=>.tup [.i r.1,.i r.2.1,.i r.2.2.1,.i r.2.2.2]) (.inr rfl) ?_ (.refl _) (Option.some.inj hM) hS
   exact (zfX (zae (x:=.i v2) rfl) (zae (x:=.i v3) rfl) (zae (x:=.i v4) rfl) (zae (x:=.i 0) rfl))
  ·refine Sq ?_
   refine Rg 1 ?_
   refine Oa (.i 0) ?_
   refine Ni ?_
   refine Ws ?_
   refine zao ?_
   refine zbj (V:=Int×Int×Int×Int) (fun v=>[(0,.sl .no 8 (a0.map Box.cells)),(2,.i v.1),(3,.i v.2.1),(4,.i v.2.2.1),(6,.i v.2.2.2)]) (fun v m2 H' g'=>St (·<g) H0 [] H' g'/\zcY n a0 m2 v.1 v.2.1 v.2.2.1 v.2.2.2=some r) (n:=n) (0,0,0,0) (.k (.k (.k (.k (.k .nil))))) ⟨(hS.keep [] rfl).up (by omega),hM⟩ ?_
   rintro ⟨v5,v6,v7,v8⟩ m2 H g2 ⟨hS,hM⟩
   obtain _ | m2:=m2
   ·exact nomatch (show none=some _ from hM)
   change wpA _ _ _ _ (Fr.of [(0,.sl .no 8 (a0.map Box.cells)),(2,.i v5),(3,.i v6),(4,.i v7),(6,.i v8)]) _ _
   replace hS:St (·<g) H0 [] H g2:=hS
   replace hM:zf8 n a0 (zcY n a0 m2) v5 v6 v7 v8=some r:=hM
   refine Sq ?_
   refine Sq ?_
   refine Rg 4 ?_
   refine Om (.i v8) ?_
   refine Om (.sl .no 8 (a0.map Box.cells)) ?_
   refine zbi (n:=a0.length) (by decide) rfl (List.length_map _) zf9 ?_
   refine Oi (.b (decide (v8<(a0.length:Int)))) ?_
   refine Ni ?_
   refine Ws ?_
   rcases bft (decide (v8<(a0.length:Int))) with hb9 | hb9
   ·replace hM:=ifT hM hb9
    refine Ct hb9 ?_
    refine zax ?_
    refine Ws ?_
    refine zaW (J:=Int×Int×Int) (fun j=>[(0,.sl .no 8 (a0.map Box.cells)),(2,.i j.1),(3,.i j.2.1),(4,.i j.2.2),(6,.i v8)]) (fun j H' g'=>St (·<g) H0 [] H' g'/\zgl (zcY n a0 m2) v8 j.1 j.2.1 j.2.2=some r) ?_ ?_
    ·rintro ⟨v10,v11,v12⟩ H g3 ⟨hS,hM⟩
     change wpA _ _ _ _ (Fr.of [(0,.sl .no 8 (a0.map Box.cells)),(2,.i v10),(3,.i v11),(4,.i v12),(6,.i v8)]) _ _
     replace hS:St (·<g) H0 [] H g3:=hS
     replace hM:zgl (zcY n a0 m2) v8 v10 v11 v12=some r:=hM
     refine Rg 3 ?_
     refine Om (.i v8) ?_
     refine Oi (.i (w64 (v8+1))) ?_
     refine Oa (.i (w64 (v8+1))) ?_
     refine Ni ?_
     exact za1 (v10,v11,v12,w64 (v8+1)) (Nat.lt_succ_self _) (.k (.k (.k (.k (.k .nil))))) ⟨(hS.keep [] rfl).up (by omega),hM⟩
    ·refine zao ?_
     refine Sq ?_
     refine Rg 14 ?_
     refine Om (.sl .no 8 (a0.map Box.cells)) ?_
     refine Om (.i v8) ?_
     obtain ⟨x13,hx13,hM⟩:=zaf hM
     refine zaL (xs:=a0) (f:=Box.cells) (z:=v8) (u:=x13) (by decide) rfl rfl zhi hx13 ?_
     refine Olg (.agg (Box.cells x13)) za5 ?_
     obtain ⟨r14,hr14,hM⟩:=zaf hM
     refine zau (bs:=[.agg (Box.cells x13)]) (by decide) rfl rfl ((zoq hr14).le (.k .nil)) ?_
     refine Om (.tup [.i r14.1,.i r14.2.1,.i r14.2.2.1,.i r14.2.2.2]) ?_
     refine Ox (.i r14.1) ?_
     refine Ox (.i r14.2.1) ?_
     refine Ox (.i r14.2.2.1) ?_
     refine Ox (.i r14.2.2.2) ?_
     refine Oa (.i r14.1) ?_
     refine Oa (.i r14.2.1) ?_
     refine Oa (.i r14.2.2.1) ?_
     refine Oa (.i r14.2.2.2) ?_
     refine Ni ?_
     refine Ws ?_
     refine Sq ?_
     refine Sq ?_
     refine Rg 2 ?_
     refine Om (.i r14.2.2.2) ?_
     refine Oi (.b (r14.2.2.2 != 0)) ?_
     refine Ni ?_
     refine Ws ?_
     rcases bft (r14.2.2.2 != 0) with hb15 | hb15
     ·replace hM:=ifT hM hb15
      refine Ct hb15 ?_
      refine Sq ?_
      refine Rg 5 ?_
      refine Om (.i r14.2.2.2) ?_
      refine Oa (.i 0) ?_
      refine Oa (.i 0) ?_
      refine Oa (.i 0) ?_
      refine Oa (.i r14.2.2.2) ?_
      refine Ni ?_
      refine Ws ?_
      refine zaQ ?_
      refine zap ?_
      refine zaZ ?_
      refine zbJ ?_
      refine zbs ?_
      refine zaZ ?_
      refine zbJ ?_
      refine zaY (x:=.tup [.i 0,.i 0,.i 0,.i r14.2.2.2]) (f:=fun r=>.tup [.i r.1,.i r.2.1,.i r.2.2.1,.i r.2.2.2]) (.inr rfl) ?_ (.refl _) (Option.some.inj hM) hS
      exact (zfX (zae (x:=.i 0) rfl) (zae (x:=.i 0) rfl) (zae (x:=.i 0) rfl) (zae (x:=.i r14.2.2.2) rfl))
     ·replace hM:=ifF hM hb15
      refine Cf hb15 ?_
      refine zax ?_
      refine Ws ?_
      refine Sq ?_
      refine Rg 10 ?_
      refine Om (.sl .no 8 (a0.map Box.cells)) ?_
      refine Om (.i v8) ?_
      obtain ⟨x16,hx16,hM⟩:=zaf hM
      refine zaL (xs:=a0) (f:=Box.cells) (z:=v8) (u:=x16) (by decide) rfl rfl zhi hx16 ?_
      refine Olg (.agg (Box.cells x16)) za5 ?_
      obtain ⟨r17,hr17,hM⟩:=zaf hM
      refine zau (bs:=[.agg (Box.cells x16)]) (by decide) rfl rfl ((zlT hr17).le (.k .nil)) ?_
      refine Om (.tup [.i r17.1,.i r17.2]) ?_
      refine Ox (.i r17.1) ?_
      refine Ox (.i r17.2) ?_
      refine Oa (.i r17.1) ?_
      refine Oa (.i r17.2) ?_
      refine Ni ?_
      refine Ws ?_
      refine Sq ?_
      refine Rg 8 ?_
      refine Om (.i v5) ?_
      refine Om (.i r14.1) ?_
      refine Oi (.i (w64 (v5+r14.1))) ?_
      refine Om (.i v6) ?_
      refine Om (.i r17.1) ?_
      refine Oi (.i (w64 (v6+r17.1))) ?_
      refine Oa (.i (w64 (v5+r14.1))) ?_
      refine Oa (.i (w64 (v6+r17.1))) ?_
      refine Ni ?_
      refine Ws ?_
      refine Sq ?_
      refine Rg 2 ?_
      refine Om (.i r17.2) ?_
      refine Oi (.b (r17.2 != 0)) ?_
      refine Ni ?_
      refine Ws ?_
      rcases bft (r17.2 != 0) with hb18 | hb18
      ·replace hM:=ifT hM hb18
       refine Ct hb18 ?_
       refine Rg 3 ?_
       refine Om (.i v7) ?_
       refine Oi (.i (w64 (v7+1))) ?_
       refine Oa (.i (w64 (v7+1))) ?_
       refine Ni ?_
       refine zag ?_
       exact zam (w64 (v5+r14.1),w64 (v6+r17.1),w64 (v7+1)) (.k (.k (.k (.k (.k .nil))))) ⟨(hS.keep [] rfl).up (by omega),hM⟩
      ·replace hM:=ifF hM hb18
       refine Cf hb18 ?_
       refine zax ?_
       refine zag ?_
       exact zam (w64 (v5+r14.1),w64 (v6+r17.1),v7) (.k (.k (.k (.k (.k .nil))))) ⟨(hS.keep [] rfl).up (by omega),hM⟩
   ·replace hM:=ifF hM hb9
    refine Cf hb9 ?_
    refine za8 ?_
    refine zal ?_
    refine zaj ?_
    refine zar ?_
    exact zam (v5,v6,v7) (.k (.k (.k .nil))) ⟨(hS.keep [] rfl).up (by omega),hM⟩
theorem zjV {n:Nat} {a0:List Box} {r:Bool} (hM:zgy n a0=some r):zaD Try.prog 9 [.sl .no 8 (a0.map Box.cells)] (.b r):=by
 refine zak mixed Try.func9 rfl (by decide) Try.ntmps9 (by simp) ?pure fun H0 g hf=>?_
 case pure=>exact .v _
 rw [zai]
 change wpA _ _ _ _ (Fr.of [(0,.sl .no 8 (a0.map Box.cells))]) H0 g
 have hS:=St.start hf
 refine Sq ?_
 refine Rg 1 ?_
 refine Oa (.b false) ?_
 refine Ni ?_
 refine Ws ?_
 refine Sq ?_
 refine zaW (J:=Bool) (fun j=>[(0,.sl .no 8 (a0.map Box.cells)),(26,.b j)]) (fun j H' g'=>St (·<g) H0 [] H' g'/\zbc n a0 j=some r) ?_ ?_
 ·rintro v1 H g1 ⟨hS,hM⟩
  change wpA _ _ _ _ (Fr.of [(0,.sl .no 8 (a0.map Box.cells)),(26,.b v1)]) _ _
  replace hS:St (·<g) H0 [] H g1:=hS
  replace hM:zbc n a0 v1=some r:=hM
  rcases bft v1 with hb2 | hb2
  ·replace hM:=ifT hM hb2
   refine Ct hb2 ?_
   refine Sq ?_
   refine Rg 2 ?_
   obtain ⟨r3,hr3,hM⟩:=zaf hM
   refine zau (bs:=[]) (by decide) rfl rfl ((zhW hr3).le .nil) ?_
   refine Oa (.b r3) ?_
   refine Ni ?_
   refine Ws ?_
   refine zaQ ?_
   refine zap ?_
   refine zaY (x:=.b r3) (f:=fun r=>.b r) (.inr rfl) ?_ (.refl _) (Option.some.inj hM) hS
   exact (zaA (zae (x:=.b r3) rfl))
  ·replace hM:=ifF hM hb2
   refine Cf hb2 ?_
   refine zax ?_
   refine Ws ?_
   refine Sq ?_
   refine Rg 1 ?_
   refine Oa (.sl .nil 0 []) ?_
   refine Ni ?_
   refine zml [(0,.sl .no 8 (a0.map Box.cells)),(3,.sl (.id (g1+1)) 8 (([]:List Box).map Box.cells))] 3 8 26 hS (by omega) (by decide) rfl (.k (.k .nil)) fun H hS=>?_
   refine zaW (J:=(List Box)) (fun j=>[(0,.sl .no 8 (a0.map Box.cells)),(3,.sl (.id (g1+1)) 8 (j.map Box.cells))]) (fun j H' g'=>St (·<g) H0 [(g1+1,.row 26 j.length)] H' g'/\zcM n a0 j=some r) ?_ ?_
   ·rintro v4 H g2 ⟨hS,hM⟩
    change wpA _ _ _ _ (Fr.of [(0,.sl .no 8 (a0.map Box.cells)),(3,.sl (.id (g1+1)) 8 (v4.map Box.cells))]) _ _
    replace hS:St (·<g) H0 [(g1+1,.row 26 v4.length)] H g2:=hS
    replace hM:zcM n a0 v4=some r:=hM
    refine Sq ?_
    refine Rg 11 ?_
    refine Om (.sl (.id (g1+1)) 8 (v4.map Box.cells)) ?_
    obtain ⟨r5,hr5,hM⟩:=zaf hM
    refine zau (bs:=[.sl (.id (g1+1)) 8 (v4.map Box.cells)]) (by decide) rfl rfl ((zny hr5).le (.cons (.sl _ _ _) .nil)) ?_
    refine Om (.tup [.i r5.1,.i r5.2.1,.i r5.2.2.1,.i r5.2.2.2]) ?_
    refine Ox (.i r5.1) ?_
    refine Ox (.i r5.2.1) ?_
    refine Ox (.i r5.2.2.1) ?_
    refine Ox (.i r5.2.2.2) ?_
    refine Oa (.i r5.1) ?_
    refine Oa (.i r5.2.1) ?_
    refine Oa (.i r5.2.2.1) ?_
    refine Oa (.i r5.2.2.2) ?_
    refine Ni ?_
    refine Ws ?_
    refine Sq ?_
    refine Rg 11 ?_
    refine Om (.sl .no 8 (a0.map Box.cells)) ?_
    obtain ⟨r6,hr6,hM⟩:=zaf hM
    refine zau (bs:=[.sl .no 8 (a0.map Box.cells)]) (by decide) rfl rfl ((zpx hr6).le (.k .nil)) ?_
    refine Om (.tup [.i r6.1,.i r6.2.1,.i r6.2.2.1,.i r6.2.2.2]) ?_
    refine Ox (.i r6.1) ?_
    refine Ox (.i r6.2.1) ?_
    refine Ox (.i r6.2.2.1) ?_
    refine Ox (.i r6.2.2.2) ?_
    refine Oa (.i r6.1) ?_
    refine Oa (.i r6.2.1) ?_
    refine Oa (.i r6.2.2.1) ?_
    refine Oa (.i r6.2.2.2) ?_
    refine Ni ?_
    refine Ws ?_
    refine zaW (J:=Unit) (fun j=>[(5,.i r5.1),(6,.i r5.2.1),(7,.i r5.2.2.1),(8,.i r5.2.2.2),(9,.i r6.1),(10,.i r6.2.1),(11,.i r6.2.2.1),(12,.i r6.2.2.2)]) (fun j H' g'=>St (·<g) H0 [] H' g'/\zdI n r5 r6=some r) ?_ ?_
    ·rintro _ H g3 ⟨hS,hM⟩
     change wpA _ _ _ _ (Fr.of [(5,.i r5.1),(6,.i r5.2.1),(7,.i r5.2.2.1),(8,.i r5.2.2.2),(9,.i r6.1),(10,.i r6.2.1),(11,.i r6.2.2.1),(12,.i r6.2.2.2)]) _ _
     replace hS:St (·<g) H0 [] H g3:=hS
     replace hM:zdI n r5 r6=some r:=hM
     refine zaW (J:=Bool) (fun j=>[(2,.b j)]) (fun j H' g'=>St (·<g) H0 [] H' g'/\zbE j=some r) ?_ ?_
     ·rintro v7 H g4 ⟨hS,hM⟩
      change wpA _ _ _ _ (Fr.of [(2,.b v7)]) _ _
      replace hS:St (·<g) H0 [] H g4:=hS
      replace hM:zbE v7=some r:=hM
      refine zaQ ?_
      refine zaY (x:=.b v7) (f:=fun r=>.b r) (.inr rfl) ?_ (.refl _) (Option.some.inj hM) hS
      exact (zaA (zae (x:=.b v7) rfl))
     ·refine Rg 22 ?_
      refine Om (.i r5.1) ?_
      refine Om (.i r6.1) ?_
      refine Oi (.b (r5.1==r6.1)) ?_
      refine Om (.b (r5.1==r6.1)) ?_
      rcases bft (r5.1==r6.1) with hb8 | hb8
      ·replace hM:=ifT hM hb8
       refine Oy (want:=true) hb8 ?_
       refine Om (.i r5.2.1) ?_
       refine Oy (want:=true) hb8 ?_
       refine Om (.i r6.2.1) ?_
       refine Oy (want:=true) hb8 ?_
       refine Oi (.b (r5.2.1==r6.2.1)) ?_
       refine Pt (.b (r5.2.1==r6.2.1)) hb8 ?_
       refine Om (.b (r5.2.1==r6.2.1)) ?_
       rcases bft (r5.2.1==r6.2.1) with hb9 | hb9
       ·replace hM:=ifT hM hb9
        refine Oy (want:=true) hb9 ?_
        refine Om (.i r5.2.2.1) ?_
        refine Oy (want:=true) hb9 ?_
        refine Om (.i r6.2.2.1) ?_
        refine Oy (want:=true) hb9 ?_
        refine Oi (.b (r5.2.2.1==r6.2.2.1)) ?_
        refine Pt (.b (r5.2.2.1==r6.2.2.1)) hb9 ?_
        refine Om (.b (r5.2.2.1==r6.2.2.1)) ?_
        rcases bft (r5.2.2.1==r6.2.2.1) with hb10 | hb10
        ·replace hM:=ifT hM hb10
         refine Oy (want:=true) hb10 ?_
         refine Om (.i r5.2.2.2) ?_
         refine Oy (want:=true) hb10 ?_
         refine Om (.i r6.2.2.2) ?_
         refine Oy (want:=true) hb10 ?_
         refine Oi (.b (r5.2.2.2==r6.2.2.2)) ?_
         refine Pt (.b (r5.2.2.2==r6.2.2.2)) hb10 ?_
         refine Om (.b (r5.2.2.2==r6.2.2.2)) ?_
         rcases bft (r5.2.2.2==r6.2.2.2) with hb11 | hb11
         ·replace hM:=ifT hM hb11
          refine Oy (want:=true) hb11 ?_
          obtain ⟨r12,hr12,hM⟩:=zaf hM
          refine zau (bs:=[]) (by decide) rfl rfl ((zhW hr12).le .nil) ?_
          refine Pt (.b r12) hb11 ?_
          refine Oa (.b r12) ?_
          refine Ni ?_
          exact zam r12 (.k .nil) ⟨(hS.keep [] rfl).up (by omega),hM⟩
         ·replace hM:=ifF hM hb11
          refine On (want:=true) hb11 ?_
          refine Pf (.b false) hb11 ?_
          refine Oa (.b false) ?_
          refine Ni ?_
          exact zam false (.k .nil) ⟨(hS.keep [] rfl).up (by omega),hM⟩
        ·replace hM:=ifF hM hb10
         refine On (want:=true) hb10 ?_
         refine On (want:=true) hb10 ?_
         refine On (want:=true) hb10 ?_
         refine Pf (.b false) hb10 ?_
         refine Om (.b false) ?_
         refine Og ?_
         refine zaT (v:=.b false) (e:=false) (by decide) rfl rfl rfl ?_
         refine Oa (.b false) ?_
         refine Ni ?_
         exact zam false (.k .nil) ⟨(hS.keep [] rfl).up (by omega),hM⟩
       ·replace hM:=ifF hM hb9
        refine On (want:=true) hb9 ?_
        refine On (want:=true) hb9 ?_
        refine On (want:=true) hb9 ?_
        refine Pf (.b false) hb9 ?_
        refine Om (.b false) ?_
        refine Og ?_
        refine Og ?_
        refine Og ?_
        refine zaT (v:=.b false) (e:=false) (by decide) rfl rfl rfl ?_
        refine Om (.b false) ?_
        refine Og ?_
        refine zaT (v:=.b false) (e:=false) (by decide) rfl rfl rfl ?_
        refine Oa (.b false) ?_
        refine Ni ?_
        exact zam false (.k .nil) ⟨(hS.keep [] rfl).up (by omega),hM⟩
      ·replace hM:=ifF hM hb8
       refine On (want:=true) hb8 ?_
       refine On (want:=true) hb8 ?_
       refine On (want:=true) hb8 ?_
       refine Pf (.b false) hb8 ?_
       refine Om (.b false) ?_
       refine Og ?_
       refine Og ?_
       refine Og ?_
       refine zaT (v:=.b false) (e:=false) (by decide) rfl rfl rfl ?_
       refine Om (.b false) ?_
       refine Og ?_
       refine Og ?_
       refine Og ?_
       refine zaT (v:=.b false) (e:=false) (by decide) rfl rfl rfl ?_
       refine Om (.b false) ?_
       refine Og ?_
       refine zaT (v:=.b false) (e:=false) (by decide) rfl rfl rfl ?_
       refine Oa (.b false) ?_
       refine Ni ?_
       exact zam false (.k .nil) ⟨(hS.keep [] rfl).up (by omega),hM⟩
    ·refine Sq ?_
     refine Rg 1 ?_
     refine Oa (.i 0) ?_
     refine Ni ?_
     refine Ws ?_
     refine zao ?_
     refine zbj (V:=Int) (fun v=>[(0,.sl .no 8 (a0.map Box.cells)),(3,.sl (.id (g1+1)) 8 (v4.map Box.cells)),(5,.i r5.1),(6,.i r5.2.1),(7,.i r5.2.2.1),(8,.i r5.2.2.2),(9,.i r6.1),(10,.i r6.2.1),(11,.i r6.2.2.1),(12,.i r6.2.2.2),(13,.i v)]) (fun v m5 H' g'=>St (·<g) H0 [(g1+1,.row 26 v4.length)] H' g'/\zbF n a0 v4 r5 r6 m5 v=some r) (n:=n) 0 (.k (.k (.k (.k (.k (.k (.k (.k (.k (.k (.k .nil))))))))))) ⟨(hS.keep [true] rfl).up (by omega),hM⟩ ?_
     rintro v13 m5 H g5 ⟨hS,hM⟩
     obtain _ | m5:=m5
     ·exact nomatch (show none=some _ from hM)
     change wpA _ _ _ _ (Fr.of [(0,.sl .no 8 (a0.map Box.cells)),(3,.sl (.id (g1+1)) 8 (v4.map Box.cells)),(5,.i r5.1),(6,.i r5.2.1),(7,.i r5.2.2.1),(8,.i r5.2.2.2),(9,.i r6.1),(10,.i r6.2.1),(11,.i r6.2.2.1),(12,.i r6.2.2.2),(13,.i v13)]) _ _
     replace hS:St (·<g) H0 [(g1+1,.row 26 v4.length)] H g5:=hS
     replace hM:zcZ n a0 v4 r5 r6 (zbF n a0 v4 r5 r6 m5) v13=some r:=hM
     refine Sq ?_
     refine Sq ?_
     refine Rg 4 ?_
     refine Om (.i v13) ?_
     refine Om (.sl .no 8 (a0.map Box.cells)) ?_
     refine zbi (n:=a0.length) (by decide) rfl (List.length_map _) zf9 ?_
     refine Oi (.b (decide (v13<(a0.length:Int)))) ?_
     refine Ni ?_
     refine Ws ?_
     rcases bft (decide (v13<(a0.length:Int))) with hb14 | hb14
     ·replace hM:=ifT hM hb14
      refine Ct hb14 ?_
      refine zax ?_
      refine Ws ?_
      refine Sq ?_
      refine zao ?_
      refine Sq ?_
      have hS0:=hS
      refine zcg (n:=10) rfl (by kernel_rfl) ?_
      refine Om (.sl (.id (g1+1)) 8 (v4.map Box.cells)) ?_
      refine Om (.i v13) ?_
      obtain ⟨x15,hx15,hM⟩:=zaf hM
      refine zaL (xs:=v4) (f:=Box.cells) (z:=v13) (u:=x15) (by decide) rfl rfl zhi hx15 ?_
      refine Olg (.agg (Box.cells x15)) za5 ?_
      refine Om (.sl .no 8 (a0.map Box.cells)) ?_
      refine Om (.i v13) ?_
      obtain ⟨x16,hx16,hM⟩:=zaf hM
      refine zaL (xs:=a0) (f:=Box.cells) (z:=v13) (u:=x16) (by decide) rfl rfl zhi hx16 ?_
      refine Olg (.agg (Box.cells x16)) za5 ?_
      obtain ⟨r17,hr17,hM⟩:=zaf hM
      refine zau (bs:=[.agg (Box.cells x15),.agg (Box.cells x16)]) (by decide) rfl rfl ((zor hr17).le (.k (.k .nil))) ?_
      refine zfF (e:=r17) (by decide) rfl ?_
      refine Ni ?_
      refine Ws ?_
      rcases bft (!r17) with hb18 | hb18
      ·replace hM:=ifT hM hb18
       refine Ct hb18 ?_
       refine Sq ?_
       refine Rg 1 ?_
       refine Oa (.b false) ?_
       refine Ni ?_
       replace hS:=hS.keep (L':=[]) [false] rfl
       refine Ws ?_
       refine zaQ ?_
       refine zaZ ?_
       refine zap ?_
       refine zbs ?_
       refine zaZ ?_
       refine zbJ ?_
       refine zaY (x:=.b false) (f:=fun r=>.b r) (.inr rfl) ?_ (.refl _) (Option.some.inj hM) hS
       exact (zaA (zae (x:=.b false) rfl))
      ·replace hM:=ifF hM hb18
       refine Cf hb18 ?_
       refine zax ?_
       refine zag ?_
       refine Ws ?_
       refine Rg 3 ?_
       refine Om (.i v13) ?_
       refine Oi (.i (w64 (v13+1))) ?_
       refine Oa (.i (w64 (v13+1))) ?_
       refine Ni ?_
       exact za1 (w64 (v13+1)) (Nat.lt_succ_self _) (.k (.k (.k (.k (.k (.k (.k (.k (.k (.k (.k .nil))))))))))) ⟨(hS.keep [true] rfl).up (by omega),hM⟩
     ·replace hM:=ifF hM hb14
      refine Cf hb14 ?_
      refine za8 ?_
      refine zal ?_
      refine zaj ?_
      refine zar ?_
      exact zam () (.k (.k (.k (.k (.k (.k (.k (.k .nil)))))))) ⟨(hS.keep [false] rfl).up (by omega),hM⟩
   ·refine Sq ?_
    refine Rg 1 ?_
    refine Oa (.i 0) ?_
    refine Ni ?_
    refine Ws ?_
    refine zao ?_
    refine zbj (V:=(List Box)×Int) (fun v=>[(0,.sl .no 8 (a0.map Box.cells)),(3,.sl (.id (g1+1)) 8 (v.1.map Box.cells)),(4,.i v.2)]) (fun v m6 H' g'=>St (·<g) H0 [(g1+1,.row 26 v.1.length)] H' g'/\zbG n a0 m6 v.1 v.2=some r) (n:=n) (([]:List Box),0) (.k (.k (.k .nil))) ⟨(hS.keep [true] rfl).up (by omega),hM⟩ ?_
    rintro ⟨v19,v20⟩ m6 H g6 ⟨hS,hM⟩
    obtain _ | m6:=m6
    ·exact nomatch (show none=some _ from hM)
    change wpA _ _ _ _ (Fr.of [(0,.sl .no 8 (a0.map Box.cells)),(3,.sl (.id (g1+1)) 8 (v19.map Box.cells)),(4,.i v20)]) _ _
    replace hS:St (·<g) H0 [(g1+1,.row 26 v19.length)] H g6:=hS
    replace hM:zc0 n a0 (zbG n a0 m6) v19 v20=some r:=hM
    refine Sq ?_
    refine Sq ?_
    refine Rg 4 ?_
    refine Om (.i v20) ?_
    refine Om (.sl .no 8 (a0.map Box.cells)) ?_
    refine zbi (n:=a0.length) (by decide) rfl (List.length_map _) zf9 ?_
    refine Oi (.b (decide (v20<(a0.length:Int)))) ?_
    refine Ni ?_
    refine Ws ?_
    rcases bft (decide (v20<(a0.length:Int))) with hb21 | hb21
    ·replace hM:=ifT hM hb21
     refine Ct hb21 ?_
     refine zax ?_
     refine Ws ?_
     refine Sq ?_
     refine zao ?_
     refine Sq ?_
     refine Sq ?_
     refine Rg 5 ?_
     refine Om (.sl .no 8 (a0.map Box.cells)) ?_
     refine Om (.i v20) ?_
     obtain ⟨x22,hx22,hM⟩:=zaf hM
     refine zaL (xs:=a0) (f:=Box.cells) (z:=v20) (u:=x22) (by decide) rfl rfl zhi hx22 ?_
     refine Olg (.agg (Box.cells x22)) za5 ?_
     obtain ⟨r23,hr23,hM⟩:=zaf hM
     refine zau (bs:=[.agg (Box.cells x22)]) (by decide) rfl rfl ((zpr hr23).le (.k .nil)) ?_
     refine Ni ?_
     refine Ws ?_
     rcases bft r23 with hb24 | hb24
     ·replace hM:=ifT hM hb24
      refine Ct hb24 ?_
      refine Sq ?_
      refine Rg 2 ?_
      obtain ⟨r25,hr25,hM⟩:=zaf hM
      refine zau (bs:=[]) (by decide) rfl rfl ((zhW hr25).le .nil) ?_
      refine Oa (.b r25) ?_
      refine Ni ?_
      replace hS:=hS.keep (L':=[]) [false] rfl
      refine Ws ?_
      refine zaQ ?_
      refine zap ?_
      refine zaZ ?_
      refine zap ?_
      refine zbs ?_
      refine zaZ ?_
      refine zbJ ?_
      refine zaY (x:=.b r25) (f:=fun r=>.b r) (.inr rfl) ?_ (.refl _) (Option.some.inj hM) hS
      exact (zaA (zae (x:=.b r25) rfl))
     ·replace hM:=ifF hM hb24
      refine Cf hb24 ?_
      refine zax ?_
      refine Ws ?_
      refine Rg 9 ?_
      refine Om (.sl (.id (g1+1)) 8 (v19.map Box.cells)) ?_
      refine Om (.sl .no 8 (a0.map Box.cells)) ?_
      refine Om (.i v20) ?_
      obtain ⟨x26,hx26,hM⟩:=zaf hM
      refine zaL (xs:=a0) (f:=Box.cells) (z:=v20) (u:=x26) (by decide) rfl rfl zhi hx26 ?_
      refine Olg (.agg (Box.cells x26)) za5 ?_
      obtain ⟨r27,hr27,hM⟩:=zaf hM
      refine zau (bs:=[.agg (Box.cells x26)]) (by decide) rfl rfl ((zoo hr27).le (.k .nil)) ?_
      refine zaV (es:=[(Box.cells r27)]) hS (by decide) zhi zsK rfl zsL rfl (by decide) (by omega) fun H hS=>?_
      obtain ⟨l28,hl28,hM⟩:=zaf hM
      refine zcp (xs:=v19) (ys:=([r27]:List Box)) (zs:=l28) (f:=Box.cells) (L':=[(g6+4+5+6,.row 26 1),(g1+1,.row 26 l28.length)]) 1 hS (by decide) rfl rfl rfl rfl .no zhi zsK zsL hl28 rfl fun H hS=>?_
      refine Oa (.sl (.id (g1+1)) 8 (l28.map Box.cells)) ?_
      refine Ni ?_
      refine zag ?_
      replace hS:=hS.keep (L':=[(g1+1,.row 26 l28.length)]) [false,true] rfl
      refine Ws ?_
      refine Rg 3 ?_
      refine Om (.i v20) ?_
      refine Oi (.i (w64 (v20+1))) ?_
      refine Oa (.i (w64 (v20+1))) ?_
      refine Ni ?_
      exact za1 (l28,w64 (v20+1)) (Nat.lt_succ_self _) (.k (.k (.k .nil))) ⟨(hS.keep [true] rfl).up (by omega),hM⟩
    ·replace hM:=ifF hM hb21
     refine Cf hb21 ?_
     refine za8 ?_
     refine zal ?_
     refine zaj ?_
     refine zar ?_
     exact zam v19 (.k (.k .nil)) ⟨(hS.keep [true] rfl).up (by omega),hM⟩
 ·refine Rg 13 ?_
  refine Om (.sl .no 8 (a0.map Box.cells)) ?_
  refine zbi (n:=a0.length) (by decide) rfl (List.length_map _) zf9 ?_
  refine Oi (.b (decide ((a0.length:Int)>40))) ?_
  refine Om (.b (decide ((a0.length:Int)>40))) ?_
  rcases bft (decide ((a0.length:Int)>40)) with hb29 | hb29
  ·replace hM:=ifT hM hb29
   refine On (want:=false) hb29 ?_
   refine On (want:=false) hb29 ?_
   refine On (want:=false) hb29 ?_
   refine On (want:=false) hb29 ?_
   refine zaF (j:=7) (by decide) rfl ?_
   refine zaF (j:=7) (by decide) rfl ?_
   refine zaF (j:=7) (by decide) rfl ?_
   refine On (want:=false) hb29 ?_
   refine Pt (.b true) hb29 ?_
   refine Ni ?_
   exact zam true (.k (.k .nil)) ⟨(hS.keep [] rfl).up (by omega),hM⟩
  ·replace hM:=ifF hM hb29
   refine Oy (want:=false) hb29 ?_
   refine Om (.sl .no 8 (a0.map Box.cells)) ?_
   refine Oy (want:=false) hb29 ?_
   refine zbi (n:=a0.length) (by decide) rfl (List.length_map _) zf9 ?_
   refine Oy (want:=false) hb29 ?_
   refine Oi (.b (decide ((a0.length:Int)>3))) ?_
   refine Oy (want:=false) hb29 ?_
   refine Om (.b (decide ((a0.length:Int)>3))) ?_
   rcases bft (decide ((a0.length:Int)>3)) with hb30 | hb30
   ·replace hM:=ifT hM hb30
    refine Oy (want:=true) hb30 ?_
    refine Om (.sl .no 8 (a0.map Box.cells)) ?_
    refine Oy (want:=true) hb30 ?_
    refine zbi (n:=a0.length) (by decide) rfl (List.length_map _) zf9 ?_
    refine Oy (want:=true) hb30 ?_
    refine Oi (.b (decide ((a0.length:Int)<=5))) ?_
    refine Oy (want:=false) hb29 ?_
    refine Pt (.b (decide ((a0.length:Int)<=5))) hb30 ?_
    refine Pf (.b (decide ((a0.length:Int)<=5))) hb29 ?_
    refine Ni ?_
    exact zam (decide ((a0.length:Int)<=5)) (.k (.k .nil)) ⟨(hS.keep [] rfl).up (by omega),hM⟩
   ·replace hM:=ifF hM hb30
    refine On (want:=true) hb30 ?_
    refine On (want:=true) hb30 ?_
    refine On (want:=true) hb30 ?_
    refine Oy (want:=false) hb29 ?_
    refine Pf (.b false) hb30 ?_
    refine Pf (.b false) hb29 ?_
    refine Ni ?_
    exact zam false (.k (.k .nil)) ⟨(hS.keep [] rfl).up (by omega),hM⟩
end Go.Proofs.Ytenogpmlhpcibaa
