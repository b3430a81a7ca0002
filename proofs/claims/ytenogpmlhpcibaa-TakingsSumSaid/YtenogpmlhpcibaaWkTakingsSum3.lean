/-
  The code returns what the functions say (printed by gen.py).
  Conditions: none.
-/
import Derived.Test.YtenogpmlhpcibaaWkTakingsSum2
import Derived.Test.YtenogpmlhpcibaaSh
import Derived.Test.YtenogpmlhpcibaaKs
import Derived.Test.YtenogpmlhpcibaaEn
set_option linter.all false
namespace Go.Proofs.Ytenogpmlhpcibaa
open Go Go.AM Go.Law
set_option linter.unusedVariables false
set_option maxRecDepth 4000
set_option maxHeartbeats 4000000
theorem zkK {n:Nat} {a0:List Int} {r:Int} (hM:slices_Max_int n a0=some r):zaD Try.prog 73 [.sl .no 1 (a0.map cI)] (.i r):=by
 refine zak mixed Try.func73 rfl (by decide) Try.ntmps73 (by simp) ?pure fun H0 g hf=>?_
 case pure=>exact .v _
 rw [zai]
 change wpA _ _ _ _ (Fr.of [(0,.sl .no 1 (a0.map cI))]) H0 g
 have hS:=St.start hf
 refine Sq ?_
 refine Rg 1 ?_
 refine Oa (.i 0) ?_
 refine Ni ?_
 refine Ws ?_
 refine zaW (J:=Unit) (fun j=>[(0,.sl .no 1 (a0.map cI))]) (fun j H' g'=>St (·<g) H0 [] H' g'/\zeA n a0=some r) ?_ ?_
 ·rintro _ H g1 ⟨hS,hM⟩
  change wpA _ _ _ _ (Fr.of [(0,.sl .no 1 (a0.map cI))]) _ _
  replace hS:St (·<g) H0 [] H g1:=hS
  replace hM:zeA n a0=some r:=hM
  refine Sq ?_
  refine Rg 4 ?_
  refine Om (.sl .no 1 (a0.map cI)) ?_
  obtain ⟨x1,hx1,hM⟩:=zaf hM
  refine zaL (xs:=a0) (f:=cI) (z:=0) (u:=x1) (by decide) rfl rfl zaw hx1 ?_
  refine Olp (.i x1) zah zas ?_
  refine Oa (.i x1) ?_
  refine Ni ?_
  refine Ws ?_
  refine zaW (J:=Int) (fun j=>[(3,.i j)]) (fun j H' g'=>St (·<g) H0 [] H' g'/\zez j=some r) ?_ ?_
  ·rintro v2 H g2 ⟨hS,hM⟩
   change wpA _ _ _ _ (Fr.of [(3,.i v2)]) _ _
   replace hS:St (·<g) H0 [] H g2:=hS
   replace hM:zez v2=some r:=hM
   refine Sq ?_
   refine Rg 2 ?_
   refine Om (.i v2) ?_
   refine Oa (.i v2) ?_
   refine Ni ?_
   refine Ws ?_
   refine zaQ ?_
   refine zaY (x:=.i v2) (f:=fun r=>.i r) (.inr rfl) ?_ (.refl _) (Option.some.inj hM) hS
   exact (zaA (zae (x:=.i v2) rfl))
  ·refine Sq ?_
   refine Rg 1 ?_
   refine Oa (.i 1) ?_
   refine Ni ?_
   refine Ws ?_
   refine zao ?_
   refine zbj (V:=Int×Int) (fun v=>[(0,.sl .no 1 (a0.map cI)),(3,.i v.1),(4,.i v.2)]) (fun v m3 H' g'=>St (·<g) H0 [] H' g'/\zce a0 m3 v.1 v.2=some r) (n:=n) (x1,1) (.k (.k (.k .nil))) ⟨(hS.keep [] rfl).up (by omega),hM⟩ ?_
   rintro ⟨v3,v4⟩ m3 H g3 ⟨hS,hM⟩
   obtain _ | m3:=m3
   ·exact nomatch (show none=some _ from hM)
   change wpA _ _ _ _ (Fr.of [(0,.sl .no 1 (a0.map cI)),(3,.i v3),(4,.i v4)]) _ _
   replace hS:St (·<g) H0 [] H g3:=hS
   replace hM:zdF a0 (zce a0 m3) v3 v4=some r:=hM
   refine Sq ?_
   refine Sq ?_
   refine Rg 4 ?_
   refine Om (.i v4) ?_
   refine Om (.sl .no 1 (a0.map cI)) ?_
   refine zbi (n:=a0.length) (by decide) rfl (List.length_map _) zaM ?_
   refine Oi (.b (decide (v4<(a0.length:Int)))) ?_
   refine Ni ?_
   refine Ws ?_
   rcases bft (decide (v4<(a0.length:Int))) with hb5 | hb5
   ·replace hM:=ifT hM hb5
    refine Ct hb5 ?_
    refine zax ?_
    refine Ws ?_
    refine Sq ?_
    refine zao ?_
    refine Rg 7 ?_
    refine Om (.i v3) ?_
    refine Om (.sl .no 1 (a0.map cI)) ?_
    refine Om (.i v4) ?_
    obtain ⟨x6,hx6,hM⟩:=zaf hM
    refine zaL (xs:=a0) (f:=cI) (z:=v4) (u:=x6) (by decide) rfl rfl zaw hx6 ?_
    refine Olp (.i x6) zah zas ?_
    refine zsn (v:=.i (max v3 x6)) (by decide) rfl ?_
    refine Oa (.i (max v3 x6)) ?_
    refine Ni ?_
    refine zag ?_
    refine Ws ?_
    refine Rg 3 ?_
    refine Om (.i v4) ?_
    refine Oi (.i (w64 (v4+1))) ?_
    refine Oa (.i (w64 (v4+1))) ?_
    refine Ni ?_
    exact za1 ((max v3 x6),w64 (v4+1)) (Nat.lt_succ_self _) (.k (.k (.k .nil))) ⟨(hS.keep [] rfl).up (by omega),hM⟩
   ·replace hM:=ifF hM hb5
    refine Cf hb5 ?_
    refine za8 ?_
    refine zal ?_
    refine zaj ?_
    refine zar ?_
    exact zam v3 (.k .nil) ⟨(hS.keep [] rfl).up (by omega),hM⟩
 ·refine Sq ?_
  refine Rg 3 ?_
  refine Om (.sl .no 1 (a0.map cI)) ?_
  refine zbi (n:=a0.length) (by decide) rfl (List.length_map _) zaM ?_
  refine Oi (.b (decide ((a0.length:Int)<1))) ?_
  refine Ni ?_
  refine Ws ?_
  rcases bft (decide ((a0.length:Int)<1)) with hb7 | hb7
  ·replace hM:=ifT hM hb7
   refine Ct hb7 ?_
   refine Rg 2 ?_
   exact nomatch (show none=some _ from hM)
  ·replace hM:=ifF hM hb7
   refine Cf hb7 ?_
   refine zax ?_
   exact zam () (.k .nil) ⟨(hS.keep [] rfl).up (by omega),hM⟩
theorem zlM {n:Nat} {a0:Box} {r:Int×Int} (hM:zgD n a0=some r):zaD Try.prog 39 [.agg (Box.cells a0)] (.tup [.i r.1,.i r.2]):=by
 refine zak mixed Try.func39 rfl (by decide) Try.ntmps39 (by simp) ?pure fun H0 g hf=>?_
 case pure=>exact .tup _ (zab (.v _) (zab (.v _) zaG))
 rw [zai]
 change wpA _ _ _ _ (Fr.of [(0,.agg (Box.cells a0))]) H0 g
 have hS:=St.start hf
 refine Sq ?_
 refine Rg 3 ?_
 refine zcI (v:=.agg (Box.cells a0)) (cs:=(Box.cells a0)) hS (by decide) rfl rfl (by omega) fun H hS=>?_
 refine Oa (.i 0) ?_
 refine Oa (.i 0) ?_
 refine Ni ?_
 refine zbd (L':=[]) 0 1 hS rfl rfl rfl fun H hS=>?_
 refine Ws ?_
 refine Sq ?_
 refine Rg 7 ?_
 refine Olg (.agg (Box.cells a0)) za5 ?_
 obtain ⟨r1,hr1,hM⟩:=zaf hM
 refine zau (bs:=[.agg (Box.cells a0)]) (by decide) rfl rfl ((zgd hr1).le (.k .nil)) ?_
 refine Om (.tup [pA Box_.cells r1.1,.i r1.2]) ?_
 refine Ox (pA Box_.cells r1.1) ?_
 refine Ox (.i r1.2) ?_
 refine Oa (pA Box_.cells r1.1) ?_
 refine Oa (.i r1.2) ?_
 refine Ni ?_
 refine Ws ?_
 refine Sq ?_
 refine Sq ?_
 refine Rg 2 ?_
 refine Om (.i r1.2) ?_
 refine Oi (.b (r1.2 != 0)) ?_
 refine Ni ?_
 refine Ws ?_
 rcases bft (r1.2 != 0) with hb2 | hb2
 ·replace hM:=ifT hM hb2
  refine Ct hb2 ?_
  refine Sq ?_
  refine Rg 3 ?_
  refine Om (.i r1.2) ?_
  refine Oa (.i 0) ?_
  refine Oa (.i r1.2) ?_
  refine Ni ?_
  refine Ws ?_
  refine zaQ ?_
  refine zap ?_
  refine zaY (x:=.tup [.i 0,.i r1.2]) (f:=fun r=>.tup [.i r.1,.i r.2]) (.inr rfl) ?_ (.refl _) (Option.some.inj hM) hS
  exact (zcP (zae (x:=.i 0) rfl) (zae (x:=.i r1.2) rfl))
 ·replace hM:=ifF hM hb2
  refine Cf hb2 ?_
  refine zax ?_
  refine Ws ?_
  refine Sq ?_
  have hS0:=hS
  refine zcg (n:=9) rfl (by kernel_rfl) ?_
  refine Of ((Box.cells a0)) zfv ?_
  refine Olp (.i a0.Plays) zah zas ?_
  refine Om (pA Box_.cells r1.1) ?_
  obtain ⟨r3,hr3,hM⟩:=zaf hM
  refine zau (bs:=[pA Box_.cells r1.1]) (by decide) rfl rfl ((zhy hr3).le (.k .nil)) ?_
  obtain ⟨r4,hr4,hM⟩:=zaf hM
  refine zau (bs:=[.sl .no 1 (r3.map cI)]) (by decide) rfl rfl ((zkK hr4).le (.k .nil)) ?_
  refine Oi (.i (w64 (a0.Plays-r4))) ?_
  refine zsn (v:=.i (max 0 (w64 (a0.Plays-r4)))) (by decide) rfl ?_
  refine Oa (.i (max 0 (w64 (a0.Plays-r4)))) ?_
  refine Oa (.i 0) ?_
  refine Ni ?_
  refine zeJ [(2,.i (max 0 (w64 (a0.Plays-r4)))),(3,.i 0)] (.k (.k .nil)) ?_
  refine zaQ ?_
  refine zaY (x:=.tup [.i (max 0 (w64 (a0.Plays-r4))),.i 0]) (f:=fun r=>.tup [.i r.1,.i r.2]) (.inr rfl) ?_ (.refl _) (Option.some.inj hM) hS
  exact (zcP (zae (x:=.i (max 0 (w64 (a0.Plays-r4)))) rfl) (zae (x:=.i 0) rfl))
theorem zlN {r:Wheel} (hM:zjy=some r):zaD Try.prog 95 [] (.agg [.i r.Round,.sl .no 1 (r.Notches.map cI),.sl .no 1 (r.Coins.map cI)]):=by
 refine zak mixed Try.func95 rfl (by decide) Try.ntmps95 (by simp) ?pure fun H0 g hf=>?_
 case pure=>exact .agg _ (zab (.v _) (zab (.sl _ _ (zaC (fun x=>(zab (.v _) zaG)))) (zab (.sl _ _ (zaC (fun x=>(zab (.v _) zaG)))) zaG)))
 rw [zai]
 change wpA _ _ _ _ (Fr.of []) H0 g
 have hS:=St.start hf
 refine Sq ?_
 refine Rg 1 ?_
 refine zbP hS (by decide) zjD (by omega) fun H hS=>?_
 refine Ni ?_
 refine Ws ?_
 refine Sq ?_
 refine Rg 4 ?_
 refine zaV (es:=[[.i 10],[.i 20],[.i 25]]) hS (by decide) zaw zbm rfl zbe rfl (by decide) (by omega) fun H hS=>?_
 refine zaV (es:=[[.i 5],[.i 10],[.i 25]]) hS (by decide) zaw zbm rfl zbe rfl (by decide) (by omega) fun H hS=>?_
 refine zbQ (cs:=[.i 50,.sl (.id (g+1+0)) 1 (([10,20,25]:List Int).map cI),.sl (.id (g+1+1)) 1 (([5,10,25]:List Int).map cI)]) (by decide) zjD zsJ rfl ?_
 refine za2 (v:=.agg [.i 50,.sl (.id (g+1+0)) 1 (([10,20,25]:List Int).map cI),.sl (.id (g+1+1)) 1 (([5,10,25]:List Int).map cI)]) (ns:=[.i 50,.sl (.id (g+1+0)) 1 (([10,20,25]:List Int).map cI),.sl (.id (g+1+1)) 1 (([5,10,25]:List Int).map cI)]) (L':=[(g+1+1,.row 3 3),(g+1+0,.row 3 3),(g+0,.cells [.i 50,.sl (.id (g+1+0)) 1 (([10,20,25]:List Int).map cI),.sl (.id (g+1+1)) 1 (([5,10,25]:List Int).map cI)])]) 2 hS rfl rfl .no rfl rfl znn nlb rfl fun H hS=>?_
 refine Ni ?_
 refine zeJ [(0,.ptr (g+0) 0)] (.k .nil) ?_
 refine zaQ ?_
 refine zaY (x:=.agg [.i 50,.sl (.id (g+1+0)) 1 (([10,20,25]:List Int).map cI),.sl (.id (g+1+1)) 1 (([5,10,25]:List Int).map cI)]) (f:=fun r=>.agg [.i r.Round,.sl .no 1 (r.Notches.map cI),.sl .no 1 (r.Coins.map cI)]) (.inr rfl) ?_ (.aggL (.k (.cons (.sl _ _ _) (.cons (.sl _ _ _) .nil)))) (Option.some.inj hM) hS
 exact (zaA (zde (x:=.agg [.i 50,.sl (.id (g+1+0)) 1 (([10,20,25]:List Int).map cI),.sl (.id (g+1+1)) 1 (([5,10,25]:List Int).map cI)]) 2 hS rfl rfl (pg zbw)))
theorem zlO {r:Box} (hM:zhL=some r):zaD Try.prog 58 [] (.agg [.i r.Wheel.Round,.sl .no 1 (r.Wheel.Notches.map cI),.sl .no 1 (r.Wheel.Coins.map cI),.sl .no 1 (r.Found.map cI),.sl .no 1 (r.Marked.map cI),.sl .no 1 (r.Slugs.map cI),.i r.Plays,.i r.Skips]):=by
 refine zak mixed Try.func58 rfl (by decide) Try.ntmps58 (by simp) ?pure fun H0 g hf=>?_
 case pure=>exact .agg _ (zab (.v _) (zab (.sl _ _ (zaC (fun x=>(zab (.v _) zaG)))) (zab (.sl _ _ (zaC (fun x=>(zab (.v _) zaG)))) (zab (.sl _ _ (zaC (fun x=>(zab (.v _) zaG)))) (zab (.sl _ _ (zaC (fun x=>(zab (.v _) zaG)))) (zab (.sl _ _ (zaC (fun x=>(zab (.v _) zaG)))) (zab (.v _) (zab (.v _) zaG))))))))
 rw [zai]
 change wpA _ _ _ _ (Fr.of []) H0 g
 have hS:=St.start hf
 refine Sq ?_
 refine Rg 1 ?_
 refine zbP hS (by decide) zgU (by omega) fun H hS=>?_
 refine Ni ?_
 refine Ws ?_
 refine Sq ?_
 refine Rg 6 ?_
 obtain ⟨r1,hr1,hM⟩:=zaf hM
 refine zau (bs:=[]) (by decide) rfl rfl ((zlN hr1).le .nil) ?_
 refine zaV (es:=[[.i 0],[.i 2],[.i 1]]) hS (by decide) zaw zbm rfl zbe rfl (by decide) (by omega) fun H hS=>?_
 refine zaV (es:=[[.i 0],[.i 1],[.i 0]]) hS (by decide) zaw zbm rfl zbe rfl (by decide) (by omega) fun H hS=>?_
 refine zaV (es:=[[.i 0],[.i 0],[.i 0]]) hS (by decide) zaw zbm rfl zbe rfl (by decide) (by omega) fun H hS=>?_
 refine zbQ (cs:=[.i r1.Round,.sl .no 1 (r1.Notches.map cI),.sl .no 1 (r1.Coins.map cI),.sl (.id (g+1+1)) 1 (([0,2,1]:List Int).map cI),.sl (.id (g+1+2)) 1 (([0,1,0]:List Int).map cI),.sl (.id (g+1+3)) 1 (([0,0,0]:List Int).map cI),.i 6,.i 0]) (by decide) zgU zvB rfl ?_
 refine za2 (v:=.agg [.i r1.Round,.sl .no 1 (r1.Notches.map cI),.sl .no 1 (r1.Coins.map cI),.sl (.id (g+1+1)) 1 (([0,2,1]:List Int).map cI),.sl (.id (g+1+2)) 1 (([0,1,0]:List Int).map cI),.sl (.id (g+1+3)) 1 (([0,0,0]:List Int).map cI),.i 6,.i 0]) (ns:=[.i r1.Round,.sl .no 1 (r1.Notches.map cI),.sl .no 1 (r1.Coins.map cI),.sl (.id (g+1+1)) 1 (([0,2,1]:List Int).map cI),.sl (.id (g+1+2)) 1 (([0,1,0]:List Int).map cI),.sl (.id (g+1+3)) 1 (([0,0,0]:List Int).map cI),.i 6,.i 0]) (L':=[(g+1+3,.row 3 3),(g+1+2,.row 3 3),(g+1+1,.row 3 3),(g+0,.cells [.i r1.Round,.sl .no 1 (r1.Notches.map cI),.sl .no 1 (r1.Coins.map cI),.sl (.id (g+1+1)) 1 (([0,2,1]:List Int).map cI),.sl (.id (g+1+2)) 1 (([0,1,0]:List Int).map cI),.sl (.id (g+1+3)) 1 (([0,0,0]:List Int).map cI),.i 6,.i 0])]) 3 hS rfl rfl .no rfl rfl ziI nlb rfl fun H hS=>?_
 refine Ni ?_
 refine zeJ [(0,.ptr (g+0) 0)] (.k .nil) ?_
 refine zaQ ?_
 refine zaY (x:=.agg [.i r1.Round,.sl .no 1 (r1.Notches.map cI),.sl .no 1 (r1.Coins.map cI),.sl (.id (g+1+1)) 1 (([0,2,1]:List Int).map cI),.sl (.id (g+1+2)) 1 (([0,1,0]:List Int).map cI),.sl (.id (g+1+3)) 1 (([0,0,0]:List Int).map cI),.i 6,.i 0]) (f:=fun r=>.agg [.i r.Wheel.Round,.sl .no 1 (r.Wheel.Notches.map cI),.sl .no 1 (r.Wheel.Coins.map cI),.sl .no 1 (r.Found.map cI),.sl .no 1 (r.Marked.map cI),.sl .no 1 (r.Slugs.map cI),.i r.Plays,.i r.Skips]) (.inr rfl) ?_ (.aggL (.k (.k (.k (.cons (.sl _ _ _) (.cons (.sl _ _ _) (.cons (.sl _ _ _) (.k (.k .nil))))))))) (Option.some.inj hM) hS
 exact (zaA (zde (x:=.agg [.i r1.Round,.sl .no 1 (r1.Notches.map cI),.sl .no 1 (r1.Coins.map cI),.sl (.id (g+1+1)) 1 (([0,2,1]:List Int).map cI),.sl (.id (g+1+2)) 1 (([0,1,0]:List Int).map cI),.sl (.id (g+1+3)) 1 (([0,0,0]:List Int).map cI),.i 6,.i 0]) 3 hS rfl rfl (pg za5)))
theorem zhW {n:Nat} {r:Bool} (hM:zfP n=some r):zaD Try.prog 16 [] (.b r):=by
 refine zak mixed Try.func16 rfl (by decide) Try.ntmps16 (by simp) ?pure fun H0 g hf=>?_
 case pure=>exact .v _
 rw [zai]
 change wpA _ _ _ _ (Fr.of []) H0 g
 have hS:=St.start hf
 refine Sq ?_
 refine Rg 1 ?_
 refine Oa (.b false) ?_
 refine Ni ?_
 refine Ws ?_
 refine Sq ?_
 refine Rg 3 ?_
 obtain ⟨r1,hr1,hM⟩:=zaf hM
 refine zau (bs:=[]) (by decide) rfl rfl ((zlO hr1).le .nil) ?_
 refine zbP hS (by decide) zgU (by omega) fun H hS=>?_
 refine za2 (v:=.agg (Box.cells r1)) (ns:=(Box.cells r1)) (L':=[(g+1+1,.cells (Box.cells r1))]) 0 hS rfl rfl .no rfl rfl ziI nlb rfl fun H hS=>?_
 refine Ni ?_
 refine zbd (L':=[]) 0 1 hS rfl rfl rfl fun H hS=>?_
 refine Ws ?_
 refine Sq ?_
 refine Rg 7 ?_
 refine Olg (.agg (Box.cells r1)) za5 ?_
 obtain ⟨r2,hr2,hM⟩:=zaf hM
 refine zau (bs:=[.agg (Box.cells r1)]) (by decide) rfl rfl ((znu hr2).le (.k .nil)) ?_
 refine Om (.tup [.sl .no 1 (r2.1.map cI),.i r2.2]) ?_
 refine Ox (.sl .no 1 (r2.1.map cI)) ?_
 refine Ox (.i r2.2) ?_
 refine Oa (.sl .no 1 (r2.1.map cI)) ?_
 refine Oa (.i r2.2) ?_
 refine Ni ?_
 refine Ws ?_
 refine Sq ?_
 refine Rg 11 ?_
 refine Olg (.agg (Box.cells r1)) za5 ?_
 obtain ⟨r3,hr3,hM⟩:=zaf hM
 refine zau (bs:=[.agg (Box.cells r1)]) (by decide) rfl rfl ((zi4 hr3).le (.k .nil)) ?_
 refine Om (.tup [.i r3.1,.i r3.2.1,.i r3.2.2.1,.i r3.2.2.2]) ?_
 refine Ox (.i r3.1) ?_
 refine Ox (.i r3.2.1) ?_
 refine Ox (.i r3.2.2.1) ?_
 refine Ox (.i r3.2.2.2) ?_
 refine Oa (.i r3.1) ?_
 refine Oa (.i r3.2.1) ?_
 refine Oa (.i r3.2.2.1) ?_
 refine Oa (.i r3.2.2.2) ?_
 refine Ni ?_
 refine Ws ?_
 refine Sq ?_
 refine Rg 7 ?_
 refine Olg (.agg (Box.cells r1)) za5 ?_
 obtain ⟨r4,hr4,hM⟩:=zaf hM
 refine zau (bs:=[.agg (Box.cells r1)]) (by decide) rfl rfl ((zhA hr4).le (.k .nil)) ?_
 refine Om (.tup [.i r4.1,.i r4.2]) ?_
 refine Ox (.i r4.1) ?_
 refine Ox (.i r4.2) ?_
 refine Oa (.i r4.1) ?_
 refine Oa (.i r4.2) ?_
 refine Ni ?_
 refine Ws ?_
 refine Sq ?_
 refine Rg 7 ?_
 refine Olg (.agg (Box.cells r1)) za5 ?_
 obtain ⟨r5,hr5,hM⟩:=zaf hM
 refine zau (bs:=[.agg (Box.cells r1)]) (by decide) rfl rfl ((zlM hr5).le (.k .nil)) ?_
 refine Om (.tup [.i r5.1,.i r5.2]) ?_
 refine Ox (.i r5.1) ?_
 refine Ox (.i r5.2) ?_
 refine Oa (.i r5.1) ?_
 refine Oa (.i r5.2) ?_
 refine Ni ?_
 refine Ws ?_
 refine zaW (J:=Bool) (fun j=>[(0,.b j)]) (fun j H' g'=>St (·<g) H0 [] H' g'/\zbz j=some r) ?_ ?_
 ·rintro v6 H g1 ⟨hS,hM⟩
  change wpA _ _ _ _ (Fr.of [(0,.b v6)]) _ _
  replace hS:St (·<g) H0 [] H g1:=hS
  replace hM:zbz v6=some r:=hM
  refine zaQ ?_
  refine zaY (x:=.b v6) (f:=fun r=>.b r) (.inr rfl) ?_ (.refl _) (Option.some.inj hM) hS
  exact (zaA (zae (x:=.b v6) rfl))
 ·refine Rg 36 ?_
  refine Om (.i r2.2) ?_
  refine Oi (.b (r2.2==0)) ?_
  refine Om (.b (r2.2==0)) ?_
  rcases bft (r2.2==0) with hb7 | hb7
  ·replace hM:=ifT hM hb7
   refine Oy (want:=true) hb7 ?_
   refine Om (.i r3.2.2.2) ?_
   refine Oy (want:=true) hb7 ?_
   refine Oi (.b (r3.2.2.2==0)) ?_
   refine Pt (.b (r3.2.2.2==0)) hb7 ?_
   refine Om (.b (r3.2.2.2==0)) ?_
   rcases bft (r3.2.2.2==0) with hb8 | hb8
   ·replace hM:=ifT hM hb8
    refine Oy (want:=true) hb8 ?_
    refine Om (.i r4.2) ?_
    refine Oy (want:=true) hb8 ?_
    refine Oi (.b (r4.2==0)) ?_
    refine Pt (.b (r4.2==0)) hb8 ?_
    refine Om (.b (r4.2==0)) ?_
    rcases bft (r4.2==0) with hb9 | hb9
    ·replace hM:=ifT hM hb9
     refine Oy (want:=true) hb9 ?_
     refine Om (.i r5.2) ?_
     refine Oy (want:=true) hb9 ?_
     refine Oi (.b (r5.2==0)) ?_
     refine Pt (.b (r5.2==0)) hb9 ?_
     refine Om (.b (r5.2==0)) ?_
     rcases bft (r5.2==0) with hb10 | hb10
     ·replace hM:=ifT hM hb10
      refine Oy (want:=true) hb10 ?_
      refine Om (.sl .no 1 (r2.1.map cI)) ?_
      refine Oy (want:=true) hb10 ?_
      refine zaV (es:=[[.i 3],[.i 4],[.i 5]]) hS (by decide) zaw zbm rfl zbe rfl (by decide) (by omega) fun H hS=>?_
      refine Oy (want:=true) hb10 ?_
      obtain ⟨r11,hr11,hM⟩:=zaf hM
      refine zau (bs:=[.sl .no 1 (r2.1.map cI),.sl (.id (g+1+3+7+11+7+7+16)) 1 (([3,4,5]:List Int).map cI)]) (by decide) rfl rfl ((zcR hr11).le (.k (.cons (.sl _ _ _) .nil))) ?_
      refine Pt (.b r11) hb10 ?_
      refine Om (.b r11) ?_
      rcases bft r11 with hb12 | hb12
      ·replace hM:=ifT hM hb12
       refine Oy (want:=true) hb12 ?_
       refine Om (.i r3.1) ?_
       refine Oy (want:=true) hb12 ?_
       refine Oi (.b (r3.1==35)) ?_
       refine Pt (.b (r3.1==35)) hb12 ?_
       refine Om (.b (r3.1==35)) ?_
       rcases bft (r3.1==35) with hb13 | hb13
       ·replace hM:=ifT hM hb13
        refine Oy (want:=true) hb13 ?_
        refine Om (.i r3.2.1) ?_
        refine Oy (want:=true) hb13 ?_
        refine Oi (.b (r3.2.1==10)) ?_
        refine Pt (.b (r3.2.1==10)) hb13 ?_
        refine Om (.b (r3.2.1==10)) ?_
        rcases bft (r3.2.1==10) with hb14 | hb14
        ·replace hM:=ifT hM hb14
         refine Oy (want:=true) hb14 ?_
         refine Om (.i r4.1) ?_
         refine Oy (want:=true) hb14 ?_
         refine Oi (.b (r4.1==5)) ?_
         refine Pt (.b (r4.1==5)) hb14 ?_
         refine Om (.b (r4.1==5)) ?_
         rcases bft (r4.1==5) with hb15 | hb15
         ·replace hM:=ifT hM hb15
          refine Oy (want:=true) hb15 ?_
          refine Om (.i r5.1) ?_
          refine Oy (want:=true) hb15 ?_
          refine Oi (.b (r5.1==1)) ?_
          refine Pt (.b (r5.1==1)) hb15 ?_
          refine Oa (.b (r5.1==1)) ?_
          refine Ni ?_
          exact zam (r5.1==1) (.k .nil) ⟨(hS.keep [false] rfl).up (by omega),hM⟩
         ·replace hM:=ifF hM hb15
          refine On (want:=true) hb15 ?_
          refine On (want:=true) hb15 ?_
          refine Pf (.b false) hb15 ?_
          refine Oa (.b false) ?_
          refine Ni ?_
          exact zam false (.k .nil) ⟨(hS.keep [false] rfl).up (by omega),hM⟩
        ·replace hM:=ifF hM hb14
         refine On (want:=true) hb14 ?_
         refine On (want:=true) hb14 ?_
         refine Pf (.b false) hb14 ?_
         refine Om (.b false) ?_
         refine Og ?_
         refine Og ?_
         refine zaT (v:=.b false) (e:=false) (by decide) rfl rfl rfl ?_
         refine Oa (.b false) ?_
         refine Ni ?_
         exact zam false (.k .nil) ⟨(hS.keep [false] rfl).up (by omega),hM⟩
       ·replace hM:=ifF hM hb13
        refine On (want:=true) hb13 ?_
        refine On (want:=true) hb13 ?_
        refine Pf (.b false) hb13 ?_
        refine Om (.b false) ?_
        refine Og ?_
        refine Og ?_
        refine zaT (v:=.b false) (e:=false) (by decide) rfl rfl rfl ?_
        refine Om (.b false) ?_
        refine Og ?_
        refine Og ?_
        refine zaT (v:=.b false) (e:=false) (by decide) rfl rfl rfl ?_
        refine Oa (.b false) ?_
        refine Ni ?_
        exact zam false (.k .nil) ⟨(hS.keep [false] rfl).up (by omega),hM⟩
      ·replace hM:=ifF hM hb12
       refine On (want:=true) hb12 ?_
       refine On (want:=true) hb12 ?_
       refine Pf (.b false) hb12 ?_
       refine Om (.b false) ?_
       refine Og ?_
       refine Og ?_
       refine zaT (v:=.b false) (e:=false) (by decide) rfl rfl rfl ?_
       refine Om (.b false) ?_
       refine Og ?_
       refine Og ?_
       refine zaT (v:=.b false) (e:=false) (by decide) rfl rfl rfl ?_
       refine Om (.b false) ?_
       refine Og ?_
       refine Og ?_
       refine zaT (v:=.b false) (e:=false) (by decide) rfl rfl rfl ?_
       refine Oa (.b false) ?_
       refine Ni ?_
       exact zam false (.k .nil) ⟨(hS.keep [false] rfl).up (by omega),hM⟩
     ·replace hM:=ifF hM hb10
      refine On (want:=true) hb10 ?_
      refine On (want:=true) hb10 ?_
      refine On (want:=true) hb10 ?_
      refine Pf (.b false) hb10 ?_
      refine Om (.b false) ?_
      refine Og ?_
      refine Og ?_
      refine zaT (v:=.b false) (e:=false) (by decide) rfl rfl rfl ?_
      refine Om (.b false) ?_
      refine Og ?_
      refine Og ?_
      refine zaT (v:=.b false) (e:=false) (by decide) rfl rfl rfl ?_
      refine Om (.b false) ?_
      refine Og ?_
      refine Og ?_
      refine zaT (v:=.b false) (e:=false) (by decide) rfl rfl rfl ?_
      refine Om (.b false) ?_
      refine Og ?_
      refine Og ?_
      refine zaT (v:=.b false) (e:=false) (by decide) rfl rfl rfl ?_
      refine Oa (.b false) ?_
      refine Ni ?_
      exact zam false (.k .nil) ⟨(hS.keep [] rfl).up (by omega),hM⟩
    ·replace hM:=ifF hM hb9
     refine On (want:=true) hb9 ?_
     refine On (want:=true) hb9 ?_
     refine Pf (.b false) hb9 ?_
     refine Om (.b false) ?_
     refine Og ?_
     refine Og ?_
     refine Og ?_
     refine zaT (v:=.b false) (e:=false) (by decide) rfl rfl rfl ?_
     refine Om (.b false) ?_
     refine Og ?_
     refine Og ?_
     refine zaT (v:=.b false) (e:=false) (by decide) rfl rfl rfl ?_
     refine Om (.b false) ?_
     refine Og ?_
     refine Og ?_
     refine zaT (v:=.b false) (e:=false) (by decide) rfl rfl rfl ?_
     refine Om (.b false) ?_
     refine Og ?_
     refine Og ?_
     refine zaT (v:=.b false) (e:=false) (by decide) rfl rfl rfl ?_
     refine Om (.b false) ?_
     refine Og ?_
     refine Og ?_
     refine zaT (v:=.b false) (e:=false) (by decide) rfl rfl rfl ?_
     refine Oa (.b false) ?_
     refine Ni ?_
     exact zam false (.k .nil) ⟨(hS.keep [] rfl).up (by omega),hM⟩
   ·replace hM:=ifF hM hb8
    refine On (want:=true) hb8 ?_
    refine On (want:=true) hb8 ?_
    refine Pf (.b false) hb8 ?_
    refine Om (.b false) ?_
    refine Og ?_
    refine Og ?_
    refine zaT (v:=.b false) (e:=false) (by decide) rfl rfl rfl ?_
    refine Om (.b false) ?_
    refine Og ?_
    refine Og ?_
    refine Og ?_
    refine zaT (v:=.b false) (e:=false) (by decide) rfl rfl rfl ?_
    refine Om (.b false) ?_
    refine Og ?_
    refine Og ?_
    refine zaT (v:=.b false) (e:=false) (by decide) rfl rfl rfl ?_
    refine Om (.b false) ?_
    refine Og ?_
    refine Og ?_
    refine zaT (v:=.b false) (e:=false) (by decide) rfl rfl rfl ?_
    refine Om (.b false) ?_
    refine Og ?_
    refine Og ?_
    refine zaT (v:=.b false) (e:=false) (by decide) rfl rfl rfl ?_
    refine Om (.b false) ?_
    refine Og ?_
    refine Og ?_
    refine zaT (v:=.b false) (e:=false) (by decide) rfl rfl rfl ?_
    refine Oa (.b false) ?_
    refine Ni ?_
    exact zam false (.k .nil) ⟨(hS.keep [] rfl).up (by omega),hM⟩
  ·replace hM:=ifF hM hb7
   refine On (want:=true) hb7 ?_
   refine On (want:=true) hb7 ?_
   refine Pf (.b false) hb7 ?_
   refine Om (.b false) ?_
   refine Og ?_
   refine Og ?_
   refine zaT (v:=.b false) (e:=false) (by decide) rfl rfl rfl ?_
   refine Om (.b false) ?_
   refine Og ?_
   refine Og ?_
   refine zaT (v:=.b false) (e:=false) (by decide) rfl rfl rfl ?_
   refine Om (.b false) ?_
   refine Og ?_
   refine Og ?_
   refine Og ?_
   refine zaT (v:=.b false) (e:=false) (by decide) rfl rfl rfl ?_
   refine Om (.b false) ?_
   refine Og ?_
   refine Og ?_
   refine zaT (v:=.b false) (e:=false) (by decide) rfl rfl rfl ?_
   refine Om (.b false) ?_
   refine Og ?_
   refine Og ?_
   refine zaT (v:=.b false) (e:=false) (by decide) rfl rfl rfl ?_
   refine Om (.b false) ?_
   refine Og ?_
   refine Og ?_
   refine zaT (v:=.b false) (e:=false) (by decide) rfl rfl rfl ?_
   refine Om (.b false) ?_
   refine Og ?_
   refine Og ?_
   refine zaT (v:=.b false) (e:=false) (by decide) rfl rfl rfl ?_
   refine Oa (.b false) ?_
   refine Ni ?_
   exact zam false (.k .nil) ⟨(hS.keep [] rfl).up (by omega),hM⟩
theorem zon {a0:Wheel} {r:Wheel} (hM:ziE a0=some r):zaD Try.prog 59 [.agg (Wheel.cells a0)] (.agg [.i r.Round,.sl .no 1 (r.Notches.map cI),.sl .no 1 (r.Coins.map cI)]):=by
 refine zak mixed Try.func59 rfl (by decide) Try.ntmps59 (by simp) ?pure fun H0 g hf=>?_
 case pure=>exact .agg _ (zab (.v _) (zab (.sl _ _ (zaC (fun x=>(zab (.v _) zaG)))) (zab (.sl _ _ (zaC (fun x=>(zab (.v _) zaG)))) zaG)))
 rw [zai]
 change wpA _ _ _ _ (Fr.of [(0,.agg (Wheel.cells a0))]) H0 g
 have hS:=St.start hf
 refine Sq ?_
 refine Rg 2 ?_
 refine zcI (v:=.agg (Wheel.cells a0)) (cs:=(Wheel.cells a0)) hS (by decide) rfl rfl (by omega) fun H hS=>?_
 refine zbP hS (by decide) zjD (by omega) fun H hS=>?_
 refine Ni ?_
 refine zbd (L':=[(g+1,.cells [.i 0,.sl .nil 0 [],.sl .nil 0 []])]) 1 1 hS rfl rfl rfl fun H hS=>?_
 refine Ws ?_
 refine Sq ?_
 have hS0:=hS
 refine zcg (n:=12) rfl (by kernel_rfl) ?_
 refine Of ((Wheel.cells a0)) zc1 ?_
 refine Olp (.i a0.Round) zah zas ?_
 refine zaV (es:=[]) hS (by decide) zaw zbm rfl zbe rfl (by decide) (by omega) fun H hS=>?_
 refine Of ((Wheel.cells a0)) zfu ?_
 refine Olp (.sl .no 1 (a0.Notches.map cI)) zaq zaE ?_
 obtain ⟨l1,hl1,hM⟩:=zaf hM
 refine zcp (xs:=([]:List Int)) (ys:=a0.Notches) (zs:=l1) (f:=cI) (L':=[(g+2+2,.row 3 l1.length),(g+1,.cells [.i 0,.sl .nil 0 [],.sl .nil 0 []])]) 0 hS (by decide) rfl rfl rfl rfl (.behind (by kernel_rfl)) zaw zbm zbe hl1 rfl fun H hS=>?_
 refine zaV (es:=[]) hS (by decide) zaw zbm rfl zbe rfl (by decide) (by omega) fun H hS=>?_
 refine Of ((Wheel.cells a0)) zcC ?_
 refine Olp (.sl .no 1 (a0.Coins.map cI)) zaq zaE ?_
 obtain ⟨l2,hl2,hM⟩:=zaf hM
 refine zcp (xs:=([]:List Int)) (ys:=a0.Coins) (zs:=l2) (f:=cI) (L':=[(g+2+6,.row 3 l2.length),(g+2+2,.row 3 l1.length),(g+1,.cells [.i 0,.sl .nil 0 [],.sl .nil 0 []])]) 0 hS (by decide) rfl rfl rfl rfl (.behind (by kernel_rfl)) zaw zbm zbe hl2 rfl fun H hS=>?_
 refine zbQ (cs:=[.i a0.Round,.sl (.id (g+2+2)) 1 (l1.map cI),.sl (.id (g+2+6)) 1 (l2.map cI)]) (by decide) zjD zsJ rfl ?_
 refine za2 (v:=.agg [.i a0.Round,.sl (.id (g+2+2)) 1 (l1.map cI),.sl (.id (g+2+6)) 1 (l2.map cI)]) (ns:=[.i a0.Round,.sl (.id (g+2+2)) 1 (l1.map cI),.sl (.id (g+2+6)) 1 (l2.map cI)]) (L':=[(g+2+6,.row 3 l2.length),(g+2+2,.row 3 l1.length),(g+1,.cells [.i a0.Round,.sl (.id (g+2+2)) 1 (l1.map cI),.sl (.id (g+2+6)) 1 (l2.map cI)])]) 2 hS rfl rfl (.st hS0 0 rfl (by omega)) rfl rfl znn nlb rfl fun H hS=>?_
 refine Ni ?_
 refine zeJ [(2,.ptr (g+1) 0)] (.k .nil) ?_
 refine zaQ ?_
 refine zaY (x:=.agg [.i a0.Round,.sl (.id (g+2+2)) 1 (l1.map cI),.sl (.id (g+2+6)) 1 (l2.map cI)]) (f:=fun r=>.agg [.i r.Round,.sl .no 1 (r.Notches.map cI),.sl .no 1 (r.Coins.map cI)]) (.inr rfl) ?_ (.aggL (.k (.cons (.sl _ _ _) (.cons (.sl _ _ _) .nil)))) (Option.some.inj hM) hS
 exact (zaA (zde (x:=.agg [.i a0.Round,.sl (.id (g+2+2)) 1 (l1.map cI),.sl (.id (g+2+6)) 1 (l2.map cI)]) 2 hS rfl rfl (pg zbw)))
theorem zoo {a0:Box} {r:Box} (hM:ziF a0=some r):zaD Try.prog 17 [.agg (Box.cells a0)] (.agg [.i r.Wheel.Round,.sl .no 1 (r.Wheel.Notches.map cI),.sl .no 1 (r.Wheel.Coins.map cI),.sl .no 1 (r.Found.map cI),.sl .no 1 (r.Marked.map cI),.sl .no 1 (r.Slugs.map cI),.i r.Plays,.i r.Skips]):=by
 refine zak mixed Try.func17 rfl (by decide) Try.ntmps17 (by simp) ?pure fun H0 g hf=>?_
 case pure=>exact .agg _ (zab (.v _) (zab (.sl _ _ (zaC (fun x=>(zab (.v _) zaG)))) (zab (.sl _ _ (zaC (fun x=>(zab (.v _) zaG)))) (zab (.sl _ _ (zaC (fun x=>(zab (.v _) zaG)))) (zab (.sl _ _ (zaC (fun x=>(zab (.v _) zaG)))) (zab (.sl _ _ (zaC (fun x=>(zab (.v _) zaG)))) (zab (.v _) (zab (.v _) zaG))))))))
 rw [zai]
 change wpA _ _ _ _ (Fr.of [(0,.agg (Box.cells a0))]) H0 g
 have hS:=St.start hf
 refine Sq ?_
 refine Rg 2 ?_
 refine zcI (v:=.agg (Box.cells a0)) (cs:=(Box.cells a0)) hS (by decide) rfl rfl (by omega) fun H hS=>?_
 refine zbP hS (by decide) zgU (by omega) fun H hS=>?_
 refine Ni ?_
 refine zbd (L':=[(g+1,.cells [.i 0,.sl .nil 0 [],.sl .nil 0 [],.sl .nil 0 [],.sl .nil 0 [],.sl .nil 0 [],.i 0,.i 0])]) 1 1 hS rfl rfl rfl fun H hS=>?_
 refine Ws ?_
 refine Sq ?_
 refine Rg 3 ?_
 refine Olg (.agg (Box.cells a0)) za5 ?_
 refine zbP hS (by decide) zgU (by omega) fun H hS=>?_
 refine za2 (v:=.agg (Box.cells a0)) (ns:=(Box.cells a0)) (L':=[(g+2+1,.cells (Box.cells a0)),(g+1,.cells [.i 0,.sl .nil 0 [],.sl .nil 0 [],.sl .nil 0 [],.sl .nil 0 [],.sl .nil 0 [],.i 0,.i 0])]) 0 hS rfl rfl .no rfl rfl ziI nlb rfl fun H hS=>?_
 refine Ni ?_
 refine Ws ?_
 refine Sq ?_
 refine Rg 5 ?_
 refine Of ((Box.cells a0)) za7 ?_
 refine Olg (.agg (Wheel.cells a0.Wheel)) zbw ?_
 obtain ⟨r1,hr1,hM⟩:=zaf hM
 refine zau (bs:=[.agg (Wheel.cells a0.Wheel)]) (by decide) rfl rfl ((zon hr1).le (.k .nil)) ?_
 refine zaR (by decide) za7 rfl ?_
 refine za2 (v:=.agg (Wheel.cells r1)) (ns:=(Wheel.cells r1)) (L':=[(g+2+1,.cells [.i r1.Round,.sl .no 1 (r1.Notches.map cI),.sl .no 1 (r1.Coins.map cI),.sl .no 1 (a0.Found.map cI),.sl .no 1 (a0.Marked.map cI),.sl .no 1 (a0.Slugs.map cI),.i a0.Plays,.i a0.Skips]),(g+1,.cells [.i 0,.sl .nil 0 [],.sl .nil 0 [],.sl .nil 0 [],.sl .nil 0 [],.sl .nil 0 [],.i 0,.i 0])]) 0 hS rfl rfl .no rfl rfl znn nlb rfl fun H hS=>?_
 refine Ni ?_
 refine Ws ?_
 refine Sq ?_
 have hS0:=hS
 refine zcg (n:=18) rfl (by kernel_rfl) ?_
 refine zaV (es:=[]) hS (by decide) zaw zbm rfl zbe rfl (by decide) (by omega) fun H hS=>?_
 refine Of ((Box.cells a0)) zco ?_
 refine Olp (.sl .no 1 (a0.Found.map cI)) zaq zaE ?_
 obtain ⟨l2,hl2,hM⟩:=zaf hM
 refine zcp (xs:=([]:List Int)) (ys:=a0.Found) (zs:=l2) (f:=cI) (L':=[(g+2+3+5+0,.row 3 l2.length),(g+2+1,.cells [.i r1.Round,.sl .no 1 (r1.Notches.map cI),.sl .no 1 (r1.Coins.map cI),.sl .no 1 (a0.Found.map cI),.sl .no 1 (a0.Marked.map cI),.sl .no 1 (a0.Slugs.map cI),.i a0.Plays,.i a0.Skips]),(g+1,.cells [.i 0,.sl .nil 0 [],.sl .nil 0 [],.sl .nil 0 [],.sl .nil 0 [],.sl .nil 0 [],.i 0,.i 0])]) 0 hS (by decide) rfl rfl rfl rfl (.behind (by kernel_rfl)) zaw zbm zbe hl2 rfl fun H hS=>?_
 refine zaV (es:=[]) hS (by decide) zaw zbm rfl zbe rfl (by decide) (by omega) fun H hS=>?_
 refine Of ((Box.cells a0)) zeq ?_
 refine Olp (.sl .no 1 (a0.Marked.map cI)) zaq zaE ?_
 obtain ⟨l3,hl3,hM⟩:=zaf hM
 refine zcp (xs:=([]:List Int)) (ys:=a0.Marked) (zs:=l3) (f:=cI) (L':=[(g+2+3+5+4,.row 3 l3.length),(g+2+3+5+0,.row 3 l2.length),(g+2+1,.cells [.i r1.Round,.sl .no 1 (r1.Notches.map cI),.sl .no 1 (r1.Coins.map cI),.sl .no 1 (a0.Found.map cI),.sl .no 1 (a0.Marked.map cI),.sl .no 1 (a0.Slugs.map cI),.i a0.Plays,.i a0.Skips]),(g+1,.cells [.i 0,.sl .nil 0 [],.sl .nil 0 [],.sl .nil 0 [],.sl .nil 0 [],.sl .nil 0 [],.i 0,.i 0])]) 0 hS (by decide) rfl rfl rfl rfl (.behind (by kernel_rfl)) zaw zbm zbe hl3 rfl fun H hS=>?_
 refine zaV (es:=[]) hS (by decide) zaw zbm rfl zbe rfl (by decide) (by omega) fun H hS=>?_
 refine Of ((Box.cells a0)) zdr ?_
 refine Olp (.sl .no 1 (a0.Slugs.map cI)) zaq zaE ?_
 obtain ⟨l4,hl4,hM⟩:=zaf hM
 refine zcp (xs:=([]:List Int)) (ys:=a0.Slugs) (zs:=l4) (f:=cI) (L':=[(g+2+3+5+8,.row 3 l4.length),(g+2+3+5+4,.row 3 l3.length),(g+2+3+5+0,.row 3 l2.length),(g+2+1,.cells [.i r1.Round,.sl .no 1 (r1.Notches.map cI),.sl .no 1 (r1.Coins.map cI),.sl .no 1 (a0.Found.map cI),.sl .no 1 (a0.Marked.map cI),.sl .no 1 (a0.Slugs.map cI),.i a0.Plays,.i a0.Skips]),(g+1,.cells [.i 0,.sl .nil 0 [],.sl .nil 0 [],.sl .nil 0 [],.sl .nil 0 [],.sl .nil 0 [],.i 0,.i 0])]) 0 hS (by decide) rfl rfl rfl rfl (.behind (by kernel_rfl)) zaw zbm zbe hl4 rfl fun H hS=>?_
 refine zaR (by decide) zco rfl ?_
 refine za2 (v:=.sl (.id (g+2+3+5+0)) 1 (l2.map cI)) (ns:=[.sl (.id (g+2+3+5+0)) 1 (l2.map cI)]) (L':=[(g+2+3+5+8,.row 3 l4.length),(g+2+3+5+4,.row 3 l3.length),(g+2+3+5+0,.row 3 l2.length),(g+2+1,.cells [.i r1.Round,.sl .no 1 (r1.Notches.map cI),.sl .no 1 (r1.Coins.map cI),.sl (.id (g+2+3+5+0)) 1 (l2.map cI),.sl .no 1 (a0.Marked.map cI),.sl .no 1 (a0.Slugs.map cI),.i a0.Plays,.i a0.Skips]),(g+1,.cells [.i 0,.sl .nil 0 [],.sl .nil 0 [],.sl .nil 0 [],.sl .nil 0 [],.sl .nil 0 [],.i 0,.i 0])]) 3 hS rfl rfl (.st hS0 0 rfl (by omega)) rfl rfl znm nlb rfl fun H hS=>?_
 refine zaR (by decide) zeq rfl ?_
 refine za2 (v:=.sl (.id (g+2+3+5+4)) 1 (l3.map cI)) (ns:=[.sl (.id (g+2+3+5+4)) 1 (l3.map cI)]) (L':=[(g+2+3+5+8,.row 3 l4.length),(g+2+3+5+4,.row 3 l3.length),(g+2+3+5+0,.row 3 l2.length),(g+2+1,.cells [.i r1.Round,.sl .no 1 (r1.Notches.map cI),.sl .no 1 (r1.Coins.map cI),.sl (.id (g+2+3+5+0)) 1 (l2.map cI),.sl (.id (g+2+3+5+4)) 1 (l3.map cI),.sl .no 1 (a0.Slugs.map cI),.i a0.Plays,.i a0.Skips]),(g+1,.cells [.i 0,.sl .nil 0 [],.sl .nil 0 [],.sl .nil 0 [],.sl .nil 0 [],.sl .nil 0 [],.i 0,.i 0])]) 3 hS rfl rfl (.st hS0 0 rfl (by omega)) rfl rfl znm nlb rfl fun H hS=>?_
 refine zaR (by decide) zdr rfl ?_
 refine za2 (v:=.sl (.id (g+2+3+5+8)) 1 (l4.map cI)) (ns:=[.sl (.id (g+2+3+5+8)) 1 (l4.map cI)]) (L':=[(g+2+3+5+8,.row 3 l4.length),(g+2+3+5+4,.row 3 l3.length),(g+2+3+5+0,.row 3 l2.length),(g+2+1,.cells [.i r1.Round,.sl .no 1 (r1.Notches.map cI),.sl .no 1 (r1.Coins.map cI),.sl (.id (g+2+3+5+0)) 1 (l2.map cI),.sl (.id (g+2+3+5+4)) 1 (l3.map cI),.sl (.id (g+2+3+5+8)) 1 (l4.map cI),.i a0.Plays,.i a0.Skips]),(g+1,.cells [.i 0,.sl .nil 0 [],.sl .nil 0 [],.sl .nil 0 [],.sl .nil 0 [],.sl .nil 0 [],.i 0,.i 0])]) 3 hS rfl rfl (.st hS0 0 rfl (by omega)) rfl rfl znm nlb rfl fun H hS=>?_
 refine Ni ?_
 refine Ws ?_
 refine Sq ?_
 refine Rg 2 ?_
 refine za4 (v:=.agg [.i r1.Round,.sl .no 1 (r1.Notches.map cI),.sl .no 1 (r1.Coins.map cI),.sl (.id (g+2+3+5+0)) 1 (l2.map cI),.sl (.id (g+2+3+5+4)) 1 (l3.map cI),.sl (.id (g+2+3+5+8)) 1 (l4.map cI),.i a0.Plays,.i a0.Skips]) 3 hS (by decide) rfl rfl .no (pg za5) ?_
 refine za2 (v:=.agg [.i r1.Round,.sl .no 1 (r1.Notches.map cI),.sl .no 1 (r1.Coins.map cI),.sl (.id (g+2+3+5+0)) 1 (l2.map cI),.sl (.id (g+2+3+5+4)) 1 (l3.map cI),.sl (.id (g+2+3+5+8)) 1 (l4.map cI),.i a0.Plays,.i a0.Skips]) (ns:=[.i r1.Round,.sl .no 1 (r1.Notches.map cI),.sl .no 1 (r1.Coins.map cI),.sl (.id (g+2+3+5+0)) 1 (l2.map cI),.sl (.id (g+2+3+5+4)) 1 (l3.map cI),.sl (.id (g+2+3+5+8)) 1 (l4.map cI),.i a0.Plays,.i a0.Skips]) (L':=[(g+2+3+5+8,.row 3 l4.length),(g+2+3+5+4,.row 3 l3.length),(g+2+3+5+0,.row 3 l2.length),(g+2+1,.cells [.i r1.Round,.sl .no 1 (r1.Notches.map cI),.sl .no 1 (r1.Coins.map cI),.sl (.id (g+2+3+5+0)) 1 (l2.map cI),.sl (.id (g+2+3+5+4)) 1 (l3.map cI),.sl (.id (g+2+3+5+8)) 1 (l4.map cI),.i a0.Plays,.i a0.Skips]),(g+1,.cells [.i r1.Round,.sl .no 1 (r1.Notches.map cI),.sl .no 1 (r1.Coins.map cI),.sl (.id (g+2+3+5+0)) 1 (l2.map cI),.sl (.id (g+2+3+5+4)) 1 (l3.map cI),.sl (.id (g+2+3+5+8)) 1 (l4.map cI),.i a0.Plays,.i a0.Skips])]) 4 hS rfl rfl .no rfl rfl ziI nlb rfl fun H hS=>?_
 refine Ni ?_
 replace hS:=hS.keep (L':=[(g+2+3+5+8,.row 3 l4.length),(g+2+3+5+4,.row 3 l3.length),(g+2+3+5+0,.row 3 l2.length),(g+1,.cells [.i r1.Round,.sl .no 1 (r1.Notches.map cI),.sl .no 1 (r1.Coins.map cI),.sl (.id (g+2+3+5+0)) 1 (l2.map cI),.sl (.id (g+2+3+5+4)) 1 (l3.map cI),.sl (.id (g+2+3+5+8)) 1 (l4.map cI),.i a0.Plays,.i a0.Skips])]) [true,true,true,false,true] rfl
 refine zeJ [(2,.ptr (g+1) 0)] (.k .nil) ?_
 refine zaQ ?_
 refine zaY (x:=.agg [.i r1.Round,.sl .no 1 (r1.Notches.map cI),.sl .no 1 (r1.Coins.map cI),.sl (.id (g+2+3+5+0)) 1 (l2.map cI),.sl (.id (g+2+3+5+4)) 1 (l3.map cI),.sl (.id (g+2+3+5+8)) 1 (l4.map cI),.i a0.Plays,.i a0.Skips]) (f:=fun r=>.agg [.i r.Wheel.Round,.sl .no 1 (r.Wheel.Notches.map cI),.sl .no 1 (r.Wheel.Coins.map cI),.sl .no 1 (r.Found.map cI),.sl .no 1 (r.Marked.map cI),.sl .no 1 (r.Slugs.map cI),.i r.Plays,.i r.Skips]) (.inr rfl) ?_ (.aggL (.k (.k (.k (.cons (.sl _ _ _) (.cons (.sl _ _ _) (.cons (.sl _ _ _) (.k (.k .nil))))))))) (Option.some.inj hM) hS
 exact (zaA (zde (x:=.agg [.i r1.Round,.sl .no 1 (r1.Notches.map cI),.sl .no 1 (r1.Coins.map cI),.sl (.id (g+2+3+5+0)) 1 (l2.map cI),.sl (.id (g+2+3+5+4)) 1 (l3.map cI),.sl (.id (g+2+3+5+8)) 1 (l4.map cI),.i a0.Plays,.i a0.Skips]) 3 hS rfl rfl (pg za5)))
theorem zc2 {n:Nat} {a0:Wheel} {a1:List Int} {r:Int} (hM:zcw n a0 a1=some r):zaD Try.prog 23 [.agg (Wheel.cells a0),.sl .no 1 (a1.map cI)] (.i r):=by
 refine zak mixed Try.func23 rfl (by decide) Try.ntmps23 (by simp) ?pure fun H0 g hf=>?_
 case pure=>exact .v _
 rw [zai]
 change wpA _ _ _ _ (Fr.of [(0,.agg (Wheel.cells a0)),(1,.sl .no 1 (a1.map cI))]) H0 g
 have hS:=St.start hf
 refine Sq ?_
 refine Rg 2 ?_
 refine zcI (v:=.agg (Wheel.cells a0)) (cs:=(Wheel.cells a0)) hS (by decide) rfl rfl (by omega) fun H hS=>?_
 refine Oa (.i 0) ?_
 refine Ni ?_
 refine zbd (L':=[]) 0 2 hS rfl rfl rfl fun H hS=>?_
 refine Ws ?_
 refine Sq ?_
 refine Rg 1 ?_
 refine Oa (.i 0) ?_
 refine Ni ?_
 refine Ws ?_
 refine zaW (J:=Int) (fun j=>[(5,.i j)]) (fun j H' g'=>St (·<g) H0 [] H' g'/\zdG j=some r) ?_ ?_
 ·rintro v1 H g1 ⟨hS,hM⟩
  change wpA _ _ _ _ (Fr.of [(5,.i v1)]) _ _
  replace hS:St (·<g) H0 [] H g1:=hS
  replace hM:zdG v1=some r:=hM
  refine Sq ?_
  refine Rg 2 ?_
  refine Om (.i v1) ?_
  refine Oa (.i v1) ?_
  refine Ni ?_
  refine Ws ?_
  refine zaQ ?_
  refine zaY (x:=.i v1) (f:=fun r=>.i r) (.inr rfl) ?_ (.refl _) (Option.some.inj hM) hS
  exact (zaA (zae (x:=.i v1) rfl))
 ·refine Sq ?_
  refine Rg 1 ?_
  refine Oa (.i 0) ?_
  refine Ni ?_
  refine Ws ?_
  refine zao ?_
  refine zbj (V:=Int×Int) (fun v=>[(1,.sl .no 1 (a1.map cI)),(2,.ep (Wheel.cells a0)),(5,.i v.1),(6,.i v.2)]) (fun v m2 H' g'=>St (·<g) H0 [] H' g'/\zbD a0 a1 m2 v.1 v.2=some r) (n:=n) (0,0) (.k (.k (.k (.k .nil)))) ⟨(hS.keep [] rfl).up (by omega),hM⟩ ?_
  rintro ⟨v2,v3⟩ m2 H g2 ⟨hS,hM⟩
  obtain _ | m2:=m2
  ·exact nomatch (show none=some _ from hM)
  change wpA _ _ _ _ (Fr.of [(1,.sl .no 1 (a1.map cI)),(2,.ep (Wheel.cells a0)),(5,.i v2),(6,.i v3)]) _ _
  replace hS:St (·<g) H0 [] H g2:=hS
  replace hM:zcW a0 a1 (zbD a0 a1 m2) v2 v3=some r:=hM
  refine Sq ?_
  refine Sq ?_
  refine Rg 4 ?_
  refine Om (.i v3) ?_
  refine Om (.sl .no 1 (a1.map cI)) ?_
  refine zbi (n:=a1.length) (by decide) rfl (List.length_map _) zaM ?_
  refine Oi (.b (decide (v3<(a1.length:Int)))) ?_
  refine Ni ?_
  refine Ws ?_
  rcases bft (decide (v3<(a1.length:Int))) with hb4 | hb4
  ·replace hM:=ifT hM hb4
   refine Ct hb4 ?_
   refine zax ?_
   refine Ws ?_
   refine Sq ?_
   refine zao ?_
   have hS0:=hS
   refine zcg (n:=13) rfl (by kernel_rfl) ?_
   refine Om (.i v2) ?_
   refine Om (.sl .no 1 (a1.map cI)) ?_
   refine Om (.i v3) ?_
   obtain ⟨x5,hx5,hM⟩:=zaf hM
   refine zaL (xs:=a1) (f:=cI) (z:=v3) (u:=x5) (by decide) rfl rfl zaw hx5 ?_
   refine Olp (.i x5) zah zas ?_
   refine Of ((Wheel.cells a0)) zcC ?_
   refine Olp (.sl .no 1 (a0.Coins.map cI)) zaq zaE ?_
   refine Om (.i v3) ?_
   obtain ⟨x6,hx6,hM⟩:=zaf hM
   refine zaL (xs:=a0.Coins) (f:=cI) (z:=v3) (u:=x6) (by decide) rfl rfl zaw hx6 ?_
   refine Olp (.i x6) zah zas ?_
   refine Oi (.i (w64 (x5*x6))) ?_
   refine Oi (.i (w64 (v2+(w64 (x5*x6))))) ?_
   refine Oa (.i (w64 (v2+(w64 (x5*x6))))) ?_
   refine Ni ?_
   refine zag ?_
   refine Ws ?_
   refine Rg 3 ?_
   refine Om (.i v3) ?_
   refine Oi (.i (w64 (v3+1))) ?_
   refine Oa (.i (w64 (v3+1))) ?_
   refine Ni ?_
   exact za1 (w64 (v2+(w64 (x5*x6))),w64 (v3+1)) (Nat.lt_succ_self _) (.k (.k (.k (.k .nil)))) ⟨(hS.keep [] rfl).up (by omega),hM⟩
  ·replace hM:=ifF hM hb4
   refine Cf hb4 ?_
   refine za8 ?_
   refine zal ?_
   refine zaj ?_
   refine zar ?_
   exact zam v2 (.k .nil) ⟨(hS.keep [] rfl).up (by omega),hM⟩
theorem zlP {a0:Box} {a1:Int} {r:Bool} (hM:zhM a0 a1=some r):zaD Try.prog 26 [.agg (Box.cells a0),.i a1] (.b r):=by
 refine zak mixed Try.func26 rfl (by decide) Try.ntmps26 (by simp) ?pure fun H0 g hf=>?_
 case pure=>exact .v _
 rw [zai]
 change wpA _ _ _ _ (Fr.of [(0,.agg (Box.cells a0)),(1,.i a1)]) H0 g
 have hS:=St.start hf
 refine Sq ?_
 refine Rg 2 ?_
 refine zcI (v:=.agg (Box.cells a0)) (cs:=(Box.cells a0)) hS (by decide) rfl rfl (by omega) fun H hS=>?_
 refine Oa (.b false) ?_
 refine Ni ?_
 refine zbd (L':=[]) 0 2 hS rfl rfl rfl fun H hS=>?_
 refine Ws ?_
 refine Sq ?_
 refine Rg 10 ?_
 refine Om (.i a1) ?_
 refine Of ((Box.cells a0)) zfv ?_
 refine Olp (.i a0.Plays) zah zas ?_
 refine Of ((Box.cells a0)) zfv ?_
 refine Olp (.i a0.Plays) zah zas ?_
 refine Of ((Box.cells a0)) zhv ?_
 refine Olp (.i a0.Skips) zah zas ?_
 refine Oi (.i (w64 (a0.Plays+a0.Skips))) ?_
 obtain ⟨r1,hr1,hM⟩:=zaf hM
 refine zau (bs:=[.i a1,.i a0.Plays,.i (w64 (a0.Plays+a0.Skips))]) (by decide) rfl rfl ((zgc hr1).le (.k (.k (.k .nil)))) ?_
 refine Oa (.b r1) ?_
 refine Ni ?_
 refine zeJ [(4,.b r1)] (.k .nil) ?_
 refine zaQ ?_
 refine zaY (x:=.b r1) (f:=fun r=>.b r) (.inr rfl) ?_ (.refl _) (Option.some.inj hM) hS
 exact (zaA (zae (x:=.b r1) rfl))
theorem zrz {n:Nat} {a0:List Int} {a1:Int} {r:Bool} (hM:zne n a0 a1=some r):zaD Try.prog 47 [.sl .no 1 (a0.map cI),.i a1] (.b r):=by
 refine zak mixed Try.func47 rfl (by decide) Try.ntmps47 (by simp) ?pure fun H0 g hf=>?_
 case pure=>exact .v _
 rw [zai]
 change wpA _ _ _ _ (Fr.of [(0,.sl .no 1 (a0.map cI)),(1,.i a1)]) H0 g
 have hS:=St.start hf
 refine Sq ?_
 refine Rg 1 ?_
 refine Oa (.b false) ?_
 refine Ni ?_
 refine Ws ?_
 refine zaW (J:=Unit) (fun j=>[]) (fun j H' g'=>St (·<g) H0 [] H' g'/\zhN=some r) ?_ ?_
 ·rintro _ H g1 ⟨hS,hM⟩
  change wpA _ _ _ _ (Fr.of []) _ _
  replace hS:St (·<g) H0 [] H g1:=hS
  replace hM:zhN=some r:=hM
  refine Sq ?_
  refine Rg 1 ?_
  refine Oa (.b false) ?_
  refine Ni ?_
  refine Ws ?_
  refine zaQ ?_
  refine zaY (x:=.b false) (f:=fun r=>.b r) (.inr rfl) ?_ (.refl _) (Option.some.inj hM) hS
  exact (zaA (zae (x:=.b false) rfl))
 ·refine Sq ?_
  refine Rg 1 ?_
  refine Oa (.i 0) ?_
  refine Ni ?_
  refine Ws ?_
  refine zao ?_
  refine zbj (V:=Int) (fun v=>[(0,.sl .no 1 (a0.map cI)),(1,.i a1),(5,.i v)]) (fun v m2 H' g'=>St (·<g) H0 [] H' g'/\ze7 a0 a1 m2 v=some r) (n:=n) 0 (.k (.k (.k .nil))) ⟨(hS.keep [] rfl).up (by omega),hM⟩ ?_
  rintro v1 m2 H g2 ⟨hS,hM⟩
  obtain _ | m2:=m2
  ·exact nomatch (show none=some _ from hM)
  change wpA _ _ _ _ (Fr.of [(0,.sl .no 1 (a0.map cI)),(1,.i a1),(5,.i v1)]) _ _
  replace hS:St (·<g) H0 [] H g2:=hS
  replace hM:zgE a0 a1 (ze7 a0 a1 m2) v1=some r:=hM
  refine Sq ?_
  refine Sq ?_
  refine Rg 4 ?_
  refine Om (.i v1) ?_
  refine Om (.sl .no 1 (a0.map cI)) ?_
  refine zbi (n:=a0.length) (by decide) rfl (List.length_map _) zaM ?_
  refine Oi (.b (decide (v1<(a0.length:Int)))) ?_
  refine Ni ?_
  refine Ws ?_
  rcases bft (decide (v1<(a0.length:Int))) with hb2 | hb2
  ·replace hM:=ifT hM hb2
   refine Ct hb2 ?_
   refine zax ?_
   refine Ws ?_
   refine Sq ?_
   refine zao ?_
   refine Sq ?_
   refine Rg 6 ?_
   refine Om (.sl .no 1 (a0.map cI)) ?_
   refine Om (.i v1) ?_
   obtain ⟨x3,hx3,hM⟩:=zaf hM
   refine zaL (xs:=a0) (f:=cI) (z:=v1) (u:=x3) (by decide) rfl rfl zaw hx3 ?_
   refine Olp (.i x3) zah zas ?_
   refine Om (.i a1) ?_
   refine Oi (.b (x3==a1)) ?_
   refine Ni ?_
   refine Ws ?_
   rcases bft (x3==a1) with hb4 | hb4
   ·replace hM:=ifT hM hb4
    refine Ct hb4 ?_
    refine Sq ?_
    refine Rg 1 ?_
    refine Oa (.b true) ?_
    refine Ni ?_
    refine Ws ?_
    refine zaQ ?_
    refine zaZ ?_
    refine zap ?_
    refine zbs ?_
    refine zaZ ?_
    refine zbJ ?_
    refine zaY (x:=.b true) (f:=fun r=>.b r) (.inr rfl) ?_ (.refl _) (Option.some.inj hM) hS
    exact (zaA (zae (x:=.b true) rfl))
   ·replace hM:=ifF hM hb4
    refine Cf hb4 ?_
    refine zax ?_
    refine zag ?_
    refine Ws ?_
    refine Rg 3 ?_
    refine Om (.i v1) ?_
    refine Oi (.i (w64 (v1+1))) ?_
    refine Oa (.i (w64 (v1+1))) ?_
    refine Ni ?_
    exact za1 (w64 (v1+1)) (Nat.lt_succ_self _) (.k (.k (.k .nil))) ⟨(hS.keep [] rfl).up (by omega),hM⟩
  ·replace hM:=ifF hM hb2
   refine Cf hb2 ?_
   refine za8 ?_
   refine zal ?_
   refine zaj ?_
   refine zar ?_
   exact zam () .nil ⟨(hS.keep [] rfl).up (by omega),hM⟩
theorem zpw {n:Nat} {a0:Wheel} {a1:Int} {a2:Int} {r:Int×Int} (hM:zjz n a0 a1 a2=some r):zaD Try.prog 102 [.agg (Wheel.cells a0),.i a1,.i a2] (.tup [.i r.1,.i r.2]):=by
 refine zak mixed Try.func102 rfl (by decide) Try.ntmps102 (by simp) ?pure fun H0 g hf=>?_
 case pure=>exact .tup _ (zab (.v _) (zab (.v _) zaG))
 rw [zai]
 change wpA _ _ _ _ (Fr.of [(0,.agg (Wheel.cells a0)),(1,.i a1),(2,.i a2)]) H0 g
 have hS:=St.start hf
 refine Sq ?_
 refine Rg 3 ?_
 refine zcI (v:=.agg (Wheel.cells a0)) (cs:=(Wheel.cells a0)) hS (by decide) rfl rfl (by omega) fun H hS=>?_
 refine Oa (.i 0) ?_
 refine Oa (.i 0) ?_
 refine Ni ?_
 refine zbd (L':=[]) 0 3 hS rfl rfl rfl fun H hS=>?_
 refine Ws ?_
 refine zaW (J:=Int×Int) (fun j=>[(1,.i j.1),(7,.i j.2)]) (fun j H' g'=>St (·<g) H0 [] H' g'/\zg8 j.1 j.2=some r) ?_ ?_
 ·rintro ⟨v1,v2⟩ H g1 ⟨hS,hM⟩
  change wpA _ _ _ _ (Fr.of [(1,.i v1),(7,.i v2)]) _ _
  replace hS:St (·<g) H0 [] H g1:=hS
  replace hM:zg8 v1 v2=some r:=hM
  refine Sq ?_
  refine Rg 4 ?_
  refine Om (.i v1) ?_
  refine Om (.i v2) ?_
  refine Oa (.i v1) ?_
  refine Oa (.i v2) ?_
  refine Ni ?_
  refine Ws ?_
  refine zaQ ?_
  refine zaY (x:=.tup [.i v1,.i v2]) (f:=fun r=>.tup [.i r.1,.i r.2]) (.inr rfl) ?_ (.refl _) (Option.some.inj hM) hS
  exact (zcP (zae (x:=.i v1) rfl) (zae (x:=.i v2) rfl))
 ·refine Sq ?_
  refine Rg 1 ?_
  refine Oa (.i 0) ?_
  refine Ni ?_
  refine Ws ?_
  refine zao ?_
  refine zbj (V:=Int×Int×Int) (fun v=>[(1,.i v.1),(2,.i a2),(3,.ep (Wheel.cells a0)),(7,.i v.2.1),(8,.i v.2.2)]) (fun v m2 H' g'=>St (·<g) H0 [] H' g'/\zcn n a0 a2 m2 v.1 v.2.1 v.2.2=some r) (n:=n) (a1,0,0) (.k (.k (.k (.k (.k .nil))))) ⟨(hS.keep [] rfl).up (by omega),hM⟩ ?_
  rintro ⟨v3,v4,v5⟩ m2 H g2 ⟨hS,hM⟩
  obtain _ | m2:=m2
  ·exact nomatch (show none=some _ from hM)
  change wpA _ _ _ _ (Fr.of [(1,.i v3),(2,.i a2),(3,.ep (Wheel.cells a0)),(7,.i v4),(8,.i v5)]) _ _
  replace hS:St (·<g) H0 [] H g2:=hS
  replace hM:zf1 n a0 a2 (zcn n a0 a2 m2) v3 v4 v5=some r:=hM
  refine Sq ?_
  refine Sq ?_
  refine Rg 3 ?_
  refine Om (.i v5) ?_
  refine Om (.i a2) ?_
  refine Oi (.b (decide (v5<a2))) ?_
  refine Ni ?_
  refine Ws ?_
  rcases bft (decide (v5<a2)) with hb6 | hb6
  ·replace hM:=ifT hM hb6
   refine Ct hb6 ?_
   refine zax ?_
   refine Ws ?_
   refine zaW (J:=Int×Int) (fun j=>[(1,.i j.1),(2,.i a2),(3,.ep (Wheel.cells a0)),(7,.i j.2),(8,.i v5)]) (fun j H' g'=>St (·<g) H0 [] H' g'/\zgj (zcn n a0 a2 m2) v5 j.1 j.2=some r) ?_ ?_
   ·rintro ⟨v7,v8⟩ H g3 ⟨hS,hM⟩
    change wpA _ _ _ _ (Fr.of [(1,.i v7),(2,.i a2),(3,.ep (Wheel.cells a0)),(7,.i v8),(8,.i v5)]) _ _
    replace hS:St (·<g) H0 [] H g3:=hS
    replace hM:zgj (zcn n a0 a2 m2) v5 v7 v8=some r:=hM
    refine Rg 3 ?_
    refine Om (.i v5) ?_
    refine Oi (.i (w64 (v5+1))) ?_
    refine Oa (.i (w64 (v5+1))) ?_
    refine Ni ?_
    exact za1 (v7,v8,w64 (v5+1)) (Nat.lt_succ_self _) (.k (.k (.k (.k (.k .nil))))) ⟨(hS.keep [] rfl).up (by omega),hM⟩
   ·refine zao ?_
    refine Sq ?_
    refine Rg 3 ?_
    refine Om (.i v3) ?_
    refine Oi (.i (w64 (v3+1))) ?_
    refine Oa (.i (w64 (v3+1))) ?_
    refine Ni ?_
    refine Ws ?_
    refine zaW (J:=Int) (fun j=>[(1,.i (w64 (v3+1))),(2,.i a2),(3,.ep (Wheel.cells a0)),(7,.i j),(8,.i v5)]) (fun j H' g'=>St (·<g) H0 [] H' g'/\zgk (zcn n a0 a2 m2) a0 v3 v5 j=some r) ?_ ?_
    ·rintro v9 H g4 ⟨hS,hM⟩
     change wpA _ _ _ _ (Fr.of [(1,.i (w64 (v3+1))),(2,.i a2),(3,.ep (Wheel.cells a0)),(7,.i v9),(8,.i v5)]) _ _
     replace hS:St (·<g) H0 [] H g4:=hS
     replace hM:zgk (zcn n a0 a2 m2) a0 v3 v5 v9=some r:=hM
     refine Sq ?_
     refine Rg 4 ?_
     refine Om (.i (w64 (v3+1))) ?_
     refine Of ((Wheel.cells a0)) zc1 ?_
     refine Olp (.i a0.Round) zah zas ?_
     refine Oi (.b ((w64 (v3+1))==a0.Round)) ?_
     refine Ni ?_
     refine Ws ?_
     rcases bft ((w64 (v3+1))==a0.Round) with hb10 | hb10
     ·replace hM:=ifT hM hb10
      refine Ct hb10 ?_
      refine Rg 1 ?_
      refine Oa (.i 0) ?_
      refine Ni ?_
      refine zag ?_
      exact zam (0,v9) (.k (.k (.k (.k (.k .nil))))) ⟨(hS.keep [] rfl).up (by omega),hM⟩
     ·replace hM:=ifF hM hb10
      refine Cf hb10 ?_
      refine zax ?_
      refine zag ?_
      exact zam (w64 (v3+1),v9) (.k (.k (.k (.k (.k .nil))))) ⟨(hS.keep [] rfl).up (by omega),hM⟩
    ·refine Sq ?_
     refine Rg 4 ?_
     refine Of ((Wheel.cells a0)) zfu ?_
     refine Olp (.sl .no 1 (a0.Notches.map cI)) zaq zaE ?_
     refine Om (.i (w64 (v3+1))) ?_
     obtain ⟨r11,hr11,hM⟩:=zaf hM
     refine zau (bs:=[.sl .no 1 (a0.Notches.map cI),.i (w64 (v3+1))]) (by decide) rfl rfl ((zrz hr11).le (.k (.k .nil))) ?_
     refine Ni ?_
     refine Ws ?_
     rcases bft r11 with hb12 | hb12
     ·replace hM:=ifT hM hb12
      refine Ct hb12 ?_
      refine Rg 3 ?_
      refine Om (.i v4) ?_
      refine Oi (.i (w64 (v4+1))) ?_
      refine Oa (.i (w64 (v4+1))) ?_
      refine Ni ?_
      exact zam (w64 (v4+1)) (.k (.k (.k (.k (.k .nil))))) ⟨(hS.keep [] rfl).up (by omega),hM⟩
     ·replace hM:=ifF hM hb12
      refine Cf hb12 ?_
      refine zax ?_
      exact zam v4 (.k (.k (.k (.k (.k .nil))))) ⟨(hS.keep [] rfl).up (by omega),hM⟩
  ·replace hM:=ifF hM hb6
   refine Cf hb6 ?_
   refine za8 ?_
   refine zal ?_
   refine zaj ?_
   refine zar ?_
   exact zam (v3,v4) (.k (.k .nil)) ⟨(hS.keep [] rfl).up (by omega),hM⟩
theorem zlQ {n:Nat} {a0:Wheel} {a1:Stand} {a2:Int} {r:Stand×Bool} (hM:zeN n a0 a1 a2=some r):zaD Try.prog 67 [.agg (Wheel.cells a0),.agg (Stand.cells a1),.i a2] (.tup [.agg [.i r.1.Place,.i r.1.Credit],.b r.2]):=by
 refine zak mixed Try.func67 rfl (by decide) Try.ntmps67 (by simp) ?pure fun H0 g hf=>?_
 case pure=>exact .tup _ (zab (.agg _ (zab (.v _) (zab (.v _) zaG))) (zab (.v _) zaG))
 rw [zai]
 change wpA _ _ _ _ (Fr.of [(0,.agg (Wheel.cells a0)),(1,.agg (Stand.cells a1)),(2,.i a2)]) H0 g
 have hS:=St.start hf
 refine Sq ?_
 refine Rg 4 ?_
 refine zcI (v:=.agg (Wheel.cells a0)) (cs:=(Wheel.cells a0)) hS (by decide) rfl rfl (by omega) fun H hS=>?_
 refine zcI (v:=.agg (Stand.cells a1)) (cs:=(Stand.cells a1)) hS (by decide) rfl rfl (by omega) fun H hS=>?_
 refine zbP hS (by decide) zcB (by omega) fun H hS=>?_
 refine Oa (.b false) ?_
 refine Ni ?_
 refine zbd (L':=[(g+2,.cells [.i 0,.i 0]),(g+1,.cells (Stand.cells a1))]) 2 3 hS rfl rfl rfl fun H hS=>?_
 refine zbd (L':=[(g+2,.cells [.i 0,.i 0])]) 1 4 hS rfl rfl rfl fun H hS=>?_
 refine Ws ?_
 refine Sq ?_
 refine Sq ?_
 refine Rg 2 ?_
 refine Om (.i a2) ?_
 refine Oi (.b (decide (a2≥0))) ?_
 refine Ni ?_
 refine Ws ?_
 rcases bft (decide (a2≥0)) with hb1 | hb1
 ·replace hM:=ifT hM hb1
  refine Ct hb1 ?_
  refine Sq ?_
  have hS0:=hS
  refine zcg (n:=14) rfl (by kernel_rfl) ?_
  refine Olg (.agg (Wheel.cells a0)) zbw ?_
  refine Of ((Stand.cells a1)) zds ?_
  refine Olp (.i a1.Place) zah zas ?_
  refine Of ((Wheel.cells a0)) zcC ?_
  refine Olp (.sl .no 1 (a0.Coins.map cI)) zaq zaE ?_
  refine Om (.i a2) ?_
  obtain ⟨x2,hx2,hM⟩:=zaf hM
  refine zaL (xs:=a0.Coins) (f:=cI) (z:=a2) (u:=x2) (by decide) rfl rfl zaw hx2 ?_
  refine Olp (.i x2) zah zas ?_
  obtain ⟨r3,hr3,hM⟩:=zaf hM
  refine zau (bs:=[.agg (Wheel.cells a0),.i a1.Place,.i x2]) (by decide) rfl rfl ((zpw hr3).le (.k (.k (.k .nil)))) ?_
  refine Om (.tup [.i r3.1,.i r3.2]) ?_
  refine Ox (.i r3.1) ?_
  refine Ox (.i r3.2) ?_
  refine Oa (.i r3.1) ?_
  refine Oa (.i r3.2) ?_
  refine Ni ?_
  refine Ws ?_
  refine Sq ?_
  refine Rg 8 ?_
  refine Om (.i r3.1) ?_
  refine Of ((Stand.cells a1)) zb1 ?_
  refine Olp (.i a1.Credit) zah zas ?_
  refine Om (.i r3.2) ?_
  refine Oi (.i (w64 (a1.Credit+r3.2))) ?_
  refine zbQ (cs:=[.i r3.1,.i (w64 (a1.Credit+r3.2))]) (by decide) zcB zhT rfl ?_
  refine za2 (v:=.agg [.i r3.1,.i (w64 (a1.Credit+r3.2))]) (ns:=[.i r3.1,.i (w64 (a1.Credit+r3.2))]) (L':=[(g+2,.cells [.i r3.1,.i (w64 (a1.Credit+r3.2))])]) 0 hS rfl rfl .no rfl rfl zeD nlb rfl fun H hS=>?_
  refine Oa (.b false) ?_
  refine Ni ?_
  refine Ws ?_
  refine zaQ ?_
  refine zap ?_
  refine zaY (x:=.tup [.agg [.i r3.1,.i (w64 (a1.Credit+r3.2))],.b false]) (f:=fun r=>.tup [.agg [.i r.1.Place,.i r.1.Credit],.b r.2]) (.inr rfl) ?_ (.refl _) (Option.some.inj hM) hS
  exact (zcP (zde (x:=.agg [.i r3.1,.i (w64 (a1.Credit+r3.2))]) 0 hS rfl rfl (pg zdm)) (zae (x:=.b false) rfl))
 ·replace hM:=ifF hM hb1
  refine Cf hb1 ?_
  refine zax ?_
  refine Ws ?_
  refine Sq ?_
  refine Sq ?_
  refine Rg 3 ?_
  refine Of ((Stand.cells a1)) zb1 ?_
  refine Olp (.i a1.Credit) zah zas ?_
  refine Oi (.b (a1.Credit==0)) ?_
  refine Ni ?_
  refine Ws ?_
  rcases bft (a1.Credit==0) with hb4 | hb4
  ·replace hM:=ifT hM hb4
   refine Ct hb4 ?_
   refine Sq ?_
   refine Rg 3 ?_
   refine Olg (.agg (Stand.cells a1)) zdm ?_
   refine za2 (v:=.agg (Stand.cells a1)) (ns:=(Stand.cells a1)) (L':=[(g+2,.cells (Stand.cells a1))]) 0 hS rfl rfl .no rfl rfl zeD nlb rfl fun H hS=>?_
   refine Oa (.b false) ?_
   refine Ni ?_
   refine Ws ?_
   refine zaQ ?_
   refine zap ?_
   refine zaY (x:=.tup [.agg (Stand.cells a1),.b false]) (f:=fun r=>.tup [.agg [.i r.1.Place,.i r.1.Credit],.b r.2]) (.inr rfl) ?_ (.refl _) (Option.some.inj hM) hS
   exact (zcP (zde (x:=.agg (Stand.cells a1)) 0 hS rfl rfl (pg zdm)) (zae (x:=.b false) rfl))
  ·replace hM:=ifF hM hb4
   refine Cf hb4 ?_
   refine zax ?_
   refine Ws ?_
   refine Sq ?_
   refine Rg 6 ?_
   refine Of ((Stand.cells a1)) zb1 ?_
   refine Olp (.i a1.Credit) zah zas ?_
   refine Oi (.i (w64 (a1.Credit-1))) ?_
   refine zbQ (cs:=[.i 0,.i (w64 (a1.Credit-1))]) (by decide) zcB zhT rfl ?_
   refine za2 (v:=.agg [.i 0,.i (w64 (a1.Credit-1))]) (ns:=[.i 0,.i (w64 (a1.Credit-1))]) (L':=[(g+2,.cells [.i 0,.i (w64 (a1.Credit-1))])]) 0 hS rfl rfl .no rfl rfl zeD nlb rfl fun H hS=>?_
   refine Oa (.b true) ?_
   refine Ni ?_
   refine zeJ [(6,.ptr (g+2) 0),(7,.b true)] (.k (.k .nil)) ?_
   refine zaQ ?_
   refine zaY (x:=.tup [.agg [.i 0,.i (w64 (a1.Credit-1))],.b true]) (f:=fun r=>.tup [.agg [.i r.1.Place,.i r.1.Credit],.b r.2]) (.inr rfl) ?_ (.refl _) (Option.some.inj hM) hS
   exact (zcP (zde (x:=.agg [.i 0,.i (w64 (a1.Credit-1))]) 0 hS rfl rfl (pg zdm)) (zae (x:=.b true) rfl))
theorem zlR {n:Nat} {rec:(List Int)->(List Int)->Option ((List (List Int)))} (hrec:∀{a0:List Int} {a1:List Int} {r:(List (List Int))},rec a0 a1=some r->zaD Try.prog 135 [.sl .no 1 (a0.map cI),.sl .no 1 (a1.map cI)] (.sl .no 1 (r.map (cL 1 cI)))) {a0:List Int} {a1:List Int} {r:(List (List Int))} (hM:zgF n rec a0 a1=some r):zaD Try.prog 135 [.sl .no 1 (a0.map cI),.sl .no 1 (a1.map cI)] (.sl .no 1 (r.map (cL 1 cI))):=by
 refine zak mixed Try.func135 rfl (by decide) Try.ntmps135 (by simp) ?pure fun H0 g hf=>?_
 case pure=>exact .sl _ _ (zaC (fun x=>(zab (.sl _ _ (zaC (fun x=>(zab (.v _) zaG)))) zaG)))
 rw [zai]
 change wpA _ _ _ _ (Fr.of [(0,.sl .no 1 (a0.map cI)),(1,.sl .no 1 (a1.map cI))]) H0 g
 have hS:=St.start hf
 refine Sq ?_
 refine Rg 1 ?_
 refine Oa (.sl .nil 0 []) ?_
 refine Ni ?_
 refine Ws ?_
 refine Sq ?_
 refine Sq ?_
 refine Rg 5 ?_
 refine Om (.sl .no 1 (a1.map cI)) ?_
 refine zbi (n:=a1.length) (by decide) rfl (List.length_map _) zaM ?_
 refine Om (.sl .no 1 (a0.map cI)) ?_
 refine zbi (n:=a0.length) (by decide) rfl (List.length_map _) zaM ?_
 refine Oi (.b ((a1.length:Int)==(a0.length:Int))) ?_
 refine Ni ?_
 refine Ws ?_
 rcases bft ((a1.length:Int)==(a0.length:Int)) with hb1 | hb1
 ·replace hM:=ifT hM hb1
  refine Ct hb1 ?_
  refine Sq ?_
  refine Rg 3 ?_
  refine Om (.sl .no 1 (a1.map cI)) ?_
  refine zaV (es:=[[.sl .no 1 (a1.map cI)]]) hS (by decide) zd9 ziJ rfl ziK rfl (by decide) (by omega) fun H hS=>?_
  refine Oa (.sl (.id (g+1+5+1)) 1 (([a1]:List (List Int)).map (cL 1 cI))) ?_
  refine Ni ?_
  refine Ws ?_
  refine zaQ ?_
  refine zap ?_
  refine zaY (x:=.sl (.id (g+1+5+1)) 1 (([a1]:List (List Int)).map (cL 1 cI))) (f:=fun r=>.sl .no 1 (r.map (cL 1 cI))) (.inr rfl) ?_ (.sl _ _ _) (Option.some.inj hM) hS
  exact (zaA (zae (x:=.sl (.id (g+1+5+1)) 1 (([a1]:List (List Int)).map (cL 1 cI))) rfl))
 ·replace hM:=ifF hM hb1
  refine Cf hb1 ?_
  refine zax ?_
  refine Ws ?_
  refine Sq ?_
  refine Rg 1 ?_
  refine Oa (.sl .nil 0 []) ?_
  refine Ni ?_
  refine zml [(0,.sl .no 1 (a0.map cI)),(1,.sl .no 1 (a1.map cI)),(5,.sl (.id (g+1+5+1)) 1 (([]:List (List Int)).map (cL 1 cI)))] 5 1 22 hS (by omega) (by decide) rfl (.k (.k (.k .nil))) fun H hS=>?_
  refine zaW (J:=(List (List Int))) (fun j=>[(5,.sl (.id (g+1+5+1)) 1 (j.map (cL 1 cI)))]) (fun j H' g'=>St (·<g) H0 [(g+1+5+1,.row 22 j.length)] H' g'/\zf2 j=some r) ?_ ?_
  ·rintro v2 H g1 ⟨hS,hM⟩
   change wpA _ _ _ _ (Fr.of [(5,.sl (.id (g+1+5+1)) 1 (v2.map (cL 1 cI)))]) _ _
   replace hS:St (·<g) H0 [(g+1+5+1,.row 22 v2.length)] H g1:=hS
   replace hM:zf2 v2=some r:=hM
   refine Sq ?_
   refine Rg 2 ?_
   refine Om (.sl (.id (g+1+5+1)) 1 (v2.map (cL 1 cI))) ?_
   refine Oa (.sl (.id (g+1+5+1)) 1 (v2.map (cL 1 cI))) ?_
   refine Ni ?_
   refine Ws ?_
   refine zaQ ?_
   refine zaY (x:=.sl (.id (g+1+5+1)) 1 (v2.map (cL 1 cI))) (f:=fun r=>.sl .no 1 (r.map (cL 1 cI))) (.inr rfl) ?_ (.sl _ _ _) (Option.some.inj hM) hS
   exact (zaA (zae (x:=.sl (.id (g+1+5+1)) 1 (v2.map (cL 1 cI))) rfl))
  ·refine Sq ?_
   refine Rg 1 ?_
   refine Oa (.i 0) ?_
   refine Ni ?_
   refine Ws ?_
   refine zao ?_
   refine zbj (V:=(List (List Int))×Int) (fun v=>[(0,.sl .no 1 (a0.map cI)),(1,.sl .no 1 (a1.map cI)),(5,.sl (.id (g+1+5+1)) 1 (v.1.map (cL 1 cI))),(6,.i v.2)]) (fun v m2 H' g'=>St (·<g) H0 [(g+1+5+1,.row 22 v.1.length)] H' g'/\zc8 rec a0 a1 m2 v.1 v.2=some r) (n:=n) (([]:List (List Int)),0) (.k (.k (.k (.k .nil)))) ⟨(hS.keep [true] rfl).up (by omega),hM⟩ ?_
   rintro ⟨v3,v4⟩ m2 H g2 ⟨hS,hM⟩
   obtain _ | m2:=m2
   ·exact nomatch (show none=some _ from hM)
   change wpA _ _ _ _ (Fr.of [(0,.sl .no 1 (a0.map cI)),(1,.sl .no 1 (a1.map cI)),(5,.sl (.id (g+1+5+1)) 1 (v3.map (cL 1 cI))),(6,.i v4)]) _ _
   replace hS:St (·<g) H0 [(g+1+5+1,.row 22 v3.length)] H g2:=hS
   replace hM:zeX rec a0 a1 (zc8 rec a0 a1 m2) v3 v4=some r:=hM
   refine Sq ?_
   refine Sq ?_
   refine Rg 7 ?_
   refine Om (.i v4) ?_
   refine Om (.sl .no 1 (a0.map cI)) ?_
   refine Om (.sl .no 1 (a1.map cI)) ?_
   refine zbi (n:=a1.length) (by decide) rfl (List.length_map _) zaM ?_
   obtain ⟨x5,hx5,hM⟩:=zaf hM
   refine zaL (xs:=a0) (f:=cI) (z:=(a1.length:Int)) (u:=x5) (by decide) rfl rfl zaw hx5 ?_
   refine Olp (.i x5) zah zas ?_
   refine Oi (.b (decide (v4<=x5))) ?_
   refine Ni ?_
   refine Ws ?_
   rcases bft (decide (v4<=x5)) with hb6 | hb6
   ·replace hM:=ifT hM hb6
    refine Ct hb6 ?_
    refine zax ?_
    refine Ws ?_
    refine Sq ?_
    refine zao ?_
    refine Rg 11 ?_
    refine Om (.sl (.id (g+1+5+1)) 1 (v3.map (cL 1 cI))) ?_
    refine Om (.sl .no 1 (a0.map cI)) ?_
    refine zaV (es:=[]) hS (by decide) zaw zbm rfl zbe rfl (by decide) (by omega) fun H hS=>?_
    refine Om (.sl .no 1 (a1.map cI)) ?_
    obtain ⟨l7,hl7,hM⟩:=zaf hM
    refine zcp (xs:=([]:List Int)) (ys:=a1) (zs:=l7) (f:=cI) (L':=[(g2+7+2,.row 3 l7.length),(g+1+5+1,.row 22 v3.length)]) 0 hS (by decide) rfl rfl rfl rfl .no zaw zbm zbe hl7 rfl fun H hS=>?_
    refine Om (.i v4) ?_
    refine zaV (es:=[[.i v4]]) hS (by decide) zaw zbm rfl zbe rfl (by decide) (by omega) fun H hS=>?_
    obtain ⟨l8,hl8,hM⟩:=zaf hM
    refine zcp (xs:=l7) (ys:=([v4]:List Int)) (zs:=l8) (f:=cI) (L':=[(g2+7+6,.row 3 1),(g2+7+2,.row 3 l8.length),(g+1+5+1,.row 22 v3.length)]) 1 hS (by decide) rfl rfl rfl rfl .no zaw zbm zbe hl8 rfl fun H hS=>?_
    obtain ⟨r9,hr9,hM⟩:=zaf hM
    refine zau (bs:=[.sl .no 1 (a0.map cI),.sl (.id (g2+7+2)) 1 (l8.map cI)]) (by decide) rfl rfl ((hrec hr9).le (.k (.cons (.sl _ _ _) .nil))) ?_
    obtain ⟨l10,hl10,hM⟩:=zaf hM
    refine zcp (xs:=v3) (ys:=r9) (zs:=l10) (f:=(cL 1 cI)) (L':=[(g2+7+6,.row 3 1),(g2+7+2,.row 3 l8.length),(g+1+5+1,.row 22 l10.length)]) 2 hS (by decide) rfl rfl rfl rfl .no zd9 ziJ ziK hl10 rfl fun H hS=>?_
    refine Oa (.sl (.id (g+1+5+1)) 1 (l10.map (cL 1 cI))) ?_
    refine Ni ?_
    refine zag ?_
    replace hS:=hS.keep (L':=[(g+1+5+1,.row 22 l10.length)]) [false,false,true] rfl
    refine Ws ?_
    refine Rg 3 ?_
    refine Om (.i v4) ?_
    refine Oi (.i (w64 (v4+1))) ?_
    refine Oa (.i (w64 (v4+1))) ?_
    refine Ni ?_
    exact za1 (l10,w64 (v4+1)) (Nat.lt_succ_self _) (.k (.k (.k (.k .nil)))) ⟨(hS.keep [true] rfl).up (by omega),hM⟩
   ·replace hM:=ifF hM hb6
    refine Cf hb6 ?_
    refine za8 ?_
    refine zal ?_
    refine zaj ?_
    refine zar ?_
    exact zam v3 (.k .nil) ⟨(hS.keep [true] rfl).up (by omega),hM⟩
theorem zhX:∀{n:Nat} {a0:List Int} {a1:List Int} {r:(List (List Int))},zcK n a0 a1=some r->zaD Try.prog 135 [.sl .no 1 (a0.map cI),.sl .no 1 (a1.map cI)] (.sl .no 1 (r.map (cL 1 cI)))
 | 0,_,_,_,h=>nomatch (show none=some _ from h)
 | n+1,_,_,_,h=>zlR (n:=n) (rec:=zcK n) (fun h=>zhX h) h
theorem znv {w0:Nat} (hnd:[w0].Nodup) {n:Nat} {rec:Wheel->(List SpotR_)->SpotR_->Option ((List SpotR_))} (hrec:∀{a0:Wheel} {a1:List SpotR_} {a2:SpotR_} {r:(List SpotR_)},rec a0 a1 a2=some r->zk2 Try.prog 136 [.agg (Wheel.cells a0),.sl (.id w0) 3 (a1.map SpotR_.cells),.agg (SpotR_.cells a2)] [(w0,.row 202 a1.length)] (.sl (.id w0) 3 (r.map SpotR_.cells)) [(w0,.row 202 r.length)]) {a0:Wheel} {a1:List SpotR_} {a2:SpotR_} {r:(List SpotR_)} (hM:zfQ n rec a0 a1 a2=some r):zk2 Try.prog 136 [.agg (Wheel.cells a0),.sl (.id w0) 3 (a1.map SpotR_.cells),.agg (SpotR_.cells a2)] [(w0,.row 202 a1.length)] (.sl (.id w0) 3 (r.map SpotR_.cells)) [(w0,.row 202 r.length)]:=by
 refine zfL mixed Try.func136 rfl (by decide) Try.ntmps136 (by simp) (zwU zoa) hnd ?pure ?cells fun H0 g hf_ hp=>?_
 case pure=>exact fun H hH=>zwY hH 0 rfl (zaC (fun x=>(zab (.v _) (zab (.v _) (zab (.v _) zaG)))))
 case cells=>exact (zvp (zsp zso zlo))
 rw [zai]
 change wpA _ _ _ _ (Fr.of [(0,.agg (Wheel.cells a0)),(1,.sl (.id w0) 3 (a1.map SpotR_.cells)),(2,.agg (SpotR_.cells a2))]) H0 g
 have hS:=St.startH (L:=[(w0,.row 202 a1.length)]) hf_ hnd hp
 replace hS:St (fun i=>i<g/\i∉ids [(w0,.row 202 a1.length)]) H0 [(w0,.row 202 a1.length)] H0 g:=hS
 refine Sq ?_
 refine Rg 3 ?_
 refine zcI (v:=.agg (Wheel.cells a0)) (cs:=(Wheel.cells a0)) hS (by decide) rfl rfl (by omega) fun H hS=>?_
 refine zcI (v:=.agg (SpotR_.cells a2)) (cs:=(SpotR_.cells a2)) hS (by decide) rfl rfl (by omega) fun H hS=>?_
 refine Oa (.sl .nil 0 []) ?_
 refine Ni ?_
 refine zbd (L':=[(g+1,.cells (SpotR_.cells a2)),(w0,.row 202 a1.length)]) 1 3 hS rfl rfl rfl fun H hS=>?_
 refine zbd (L':=[(w0,.row 202 a1.length)]) 0 5 hS rfl rfl rfl fun H hS=>?_
 refine Ws ?_
 refine zaW (J:=Unit) (fun j=>[(1,.sl (.id w0) 3 (a1.map SpotR_.cells)),(3,.ep (Wheel.cells a0)),(5,.ep (SpotR_.cells a2))]) (fun j H' g'=>St (fun i=>i<g/\i∉ids [(w0,.row 202 a1.length)]) H0 [(w0,.row 202 a1.length)] H' g'/\zen n rec a0 a1 a2=some r) ?_ ?_
 ·rintro _ H g1 ⟨hS,hM⟩
  change wpA _ _ _ _ (Fr.of [(1,.sl (.id w0) 3 (a1.map SpotR_.cells)),(3,.ep (Wheel.cells a0)),(5,.ep (SpotR_.cells a2))]) _ _
  replace hS:St (fun i=>i<g/\i∉ids [(w0,.row 202 a1.length)]) H0 [(w0,.row 202 a1.length)] H g1:=hS
  replace hM:zen n rec a0 a1 a2=some r:=hM
  refine Sq ?_
  refine Rg 5 ?_
  refine Om (.sl (.id w0) 3 (a1.map SpotR_.cells)) ?_
  refine Olg (.agg (SpotR_.cells a2)) zlA ?_
  refine zaV (es:=[(SpotR_.cells a2)]) hS (by decide) zha zqf rfl zqg rfl (by decide) (by omega) fun H hS=>?_
  obtain ⟨l1,hl1,hM⟩:=zaf hM
  refine zcp (xs:=a1) (ys:=([a2]:List SpotR_)) (zs:=l1) (f:=SpotR_.cells) (L':=[(g1+2,.row 202 1),(w0,.row 202 l1.length)]) 1 hS (by decide) rfl rfl rfl rfl .no zha zqf zqg hl1 rfl fun H hS=>?_
  refine Oa (.sl (.id w0) 3 (l1.map SpotR_.cells)) ?_
  refine Ni ?_
  replace hS:=hS.keep (L':=[(w0,.row 202 l1.length)]) [false,true] rfl
  refine Ws ?_
  refine Sq ?_
  refine Rg 10 ?_
  refine Olg (.agg (Wheel.cells a0)) zbw ?_
  refine Of ((SpotR_.cells a2)) ziM ?_
  refine Olg (.agg (Stand.cells a2.stand)) zdm ?_
  obtain ⟨r2,hr2,hM⟩:=zaf hM
  refine zau (bs:=[.agg (Wheel.cells a0),.agg (Stand.cells a2.stand),.i (-1)]) (by decide) rfl rfl ((zlQ hr2).le (.k (.k (.k .nil)))) ?_
  refine Om (.tup [.agg (Stand.cells r2.1),.b r2.2]) ?_
  refine Ox (.agg (Stand.cells r2.1)) ?_
  refine Ox (.b r2.2) ?_
  refine zbP hS (by decide) zcB (by omega) fun H hS=>?_
  refine za2 (v:=.agg (Stand.cells r2.1)) (ns:=(Stand.cells r2.1)) (L':=[(g1+5+7,.cells (Stand.cells r2.1)),(w0,.row 202 l1.length)]) 0 hS rfl rfl .no rfl rfl zeD nlb rfl fun H hS=>?_
  refine Oa (.b r2.2) ?_
  refine Ni ?_
  refine zbd (L':=[(w0,.row 202 l1.length)]) 0 8 hS rfl rfl rfl fun H hS=>?_
  refine Ws ?_
  refine Sq ?_
  refine zaW (J:=Bool) (fun j=>[(1,.sl (.id w0) 3 (l1.map SpotR_.cells)),(3,.ep (Wheel.cells a0)),(5,.ep (SpotR_.cells a2)),(8,.ep (Stand.cells r2.1)),(41,.b j)]) (fun j H' g'=>St (fun i=>i<g/\i∉ids [(w0,.row 202 a1.length)]) H0 [(w0,.row 202 l1.length)] H' g'/\zem rec a0 a2 l1 r2 j=some r) ?_ ?_
  ·rintro v3 H g2 ⟨hS,hM⟩
   change wpA _ _ _ _ (Fr.of [(1,.sl (.id w0) 3 (l1.map SpotR_.cells)),(3,.ep (Wheel.cells a0)),(5,.ep (SpotR_.cells a2)),(8,.ep (Stand.cells r2.1)),(41,.b v3)]) _ _
   replace hS:St (fun i=>i<g/\i∉ids [(w0,.row 202 a1.length)]) H0 [(w0,.row 202 l1.length)] H g2:=hS
   replace hM:zem rec a0 a2 l1 r2 v3=some r:=hM
   rcases bft v3 with hb4 | hb4
   ·replace hM:=ifT hM hb4
    refine Ct hb4 ?_
    refine Sq ?_
    refine Rg 2 ?_
    refine Om (.sl (.id w0) 3 (l1.map SpotR_.cells)) ?_
    refine Oa (.sl (.id w0) 3 (l1.map SpotR_.cells)) ?_
    refine Ni ?_
    refine Ws ?_
    refine zaQ ?_
    refine zap ?_
    refine zhZ (x:=.sl (.id w0) 3 (l1.map SpotR_.cells)) (f:=fun r=>.sl (.id w0) 3 (r.map SpotR_.cells)) (fd:=fun r=>[(w0,.row 202 r.length)]) (.inr rfl) ?_ (.refl _) (Option.some.inj hM) hS 0 rfl
    exact (zaA (zae (x:=.sl (.id w0) 3 (l1.map SpotR_.cells)) rfl))
   ·replace hM:=ifF hM hb4
    refine Cf hb4 ?_
    refine zax ?_
    refine Ws ?_
    refine Sq ?_
    refine Rg 8 ?_
    refine Olg (.agg (Wheel.cells a0)) zbw ?_
    refine Om (.sl (.id w0) 3 (l1.map SpotR_.cells)) ?_
    refine Olg (.agg (Stand.cells r2.1)) zdm ?_
    refine Of ((SpotR_.cells a2)) ziN ?_
    refine Olp (.i a2.bought) zah zas ?_
    refine zbQ (cs:=[.i r2.1.Place,.i r2.1.Credit,.i a2.bought]) (by decide) zkj znr rfl ?_
    obtain ⟨r5,hr5,hM⟩:=zaf hM
    have hndr5:=hS.nd_at (ns:=[0]) (M:=[(w0,.row 202 l1.length)]) (M':=[(w0,.row 202 r5.length)]) (.cons rfl .nil) (by decide)
    refine zsr (bs:=[.agg (Wheel.cells a0),.sl (.id w0) 3 (l1.map SpotR_.cells),.agg [.i r2.1.Place,.i r2.1.Credit,.i a2.bought]]) (M:=[(w0,.row 202 l1.length)]) (M':=[(w0,.row 202 r5.length)]) (L':=[(w0,.row 202 r5.length)]) [0] (.inl rfl) hS (by decide) rfl rfl ((hrec hr5).le (.k (.k (.k .nil)))) (.cons rfl .nil) rfl (by omega) fun H hS=>?_
    refine Oa (.sl (.id w0) 3 (r5.map SpotR_.cells)) ?_
    refine Ni ?_
    refine Ws ?_
    refine zaQ ?_
    refine zhZ (x:=.sl (.id w0) 3 (r5.map SpotR_.cells)) (f:=fun r=>.sl (.id w0) 3 (r.map SpotR_.cells)) (fd:=fun r=>[(w0,.row 202 r.length)]) (.inr rfl) ?_ (.refl _) (Option.some.inj hM) hS 0 rfl
    exact (zaA (zae (x:=.sl (.id w0) 3 (r5.map SpotR_.cells)) rfl))
  ·refine Rg 8 ?_
   refine Om (.b r2.2) ?_
   refine zfF (e:=r2.2) (by decide) rfl ?_
   refine Om (.b (!r2.2)) ?_
   rcases bft (!r2.2) with hb6 | hb6
   ·replace hM:=ifT hM hb6
    refine On (want:=false) hb6 ?_
    refine On (want:=false) hb6 ?_
    refine On (want:=false) hb6 ?_
    refine On (want:=false) hb6 ?_
    refine Pt (.b true) hb6 ?_
    refine Ni ?_
    exact zam true (.k (.k (.k (.k (.k .nil))))) ⟨(hS.keep [true] rfl).up (by omega),hM⟩
   ·replace hM:=ifF hM hb6
    refine Oy (want:=false) hb6 ?_
    refine Of ((SpotR_.cells a2)) ziM ?_
    refine Oy (want:=false) hb6 ?_
    refine Of ((SpotR_.cells a2)) zds ?_
    refine Oy (want:=false) hb6 ?_
    refine Olp (.i a2.stand.Place) zah zas ?_
    refine Oy (want:=false) hb6 ?_
    refine Oi (.b (a2.stand.Place==0)) ?_
    refine Pf (.b (a2.stand.Place==0)) hb6 ?_
    refine Ni ?_
    exact zam (a2.stand.Place==0) (.k (.k (.k (.k (.k .nil))))) ⟨(hS.keep [true] rfl).up (by omega),hM⟩
 ·refine Sq ?_
  refine Rg 1 ?_
  refine Oa (.i 0) ?_
  refine Ni ?_
  refine Ws ?_
  refine zao ?_
  refine zbj (V:=Int) (fun v=>[(1,.sl (.id w0) 3 (a1.map SpotR_.cells)),(3,.ep (Wheel.cells a0)),(5,.ep (SpotR_.cells a2)),(7,.i v)]) (fun v m3 H' g'=>St (fun i=>i<g/\i∉ids [(w0,.row 202 a1.length)]) H0 [(w0,.row 202 a1.length)] H' g'/\zdy n rec a0 a1 a2 m3 v=some r) (n:=n) 0 (.k (.k (.k (.k .nil)))) ⟨(hS.keep [true] rfl).up (by omega),hM⟩ ?_
  rintro v7 m3 H g3 ⟨hS,hM⟩
  obtain _ | m3:=m3
  ·exact nomatch (show none=some _ from hM)
  change wpA _ _ _ _ (Fr.of [(1,.sl (.id w0) 3 (a1.map SpotR_.cells)),(3,.ep (Wheel.cells a0)),(5,.ep (SpotR_.cells a2)),(7,.i v7)]) _ _
  replace hS:St (fun i=>i<g/\i∉ids [(w0,.row 202 a1.length)]) H0 [(w0,.row 202 a1.length)] H g3:=hS
  replace hM:zf3 n rec a0 a1 a2 (zdy n rec a0 a1 a2 m3) v7=some r:=hM
  refine Sq ?_
  refine Sq ?_
  refine Rg 4 ?_
  refine Om (.i v7) ?_
  refine Om (.sl (.id w0) 3 (a1.map SpotR_.cells)) ?_
  refine zbi (n:=a1.length) (by decide) rfl (List.length_map _) zjM ?_
  refine Oi (.b (decide (v7<(a1.length:Int)))) ?_
  refine Ni ?_
  refine Ws ?_
  rcases bft (decide (v7<(a1.length:Int))) with hb8 | hb8
  ·replace hM:=ifT hM hb8
   refine Ct hb8 ?_
   refine zax ?_
   refine Ws ?_
   refine Sq ?_
   refine zao ?_
   refine Sq ?_
   have hS0:=hS
   refine zcg (n:=6) rfl (by kernel_rfl) ?_
   refine Om (.sl (.id w0) 3 (a1.map SpotR_.cells)) ?_
   refine Om (.i v7) ?_
   obtain ⟨x9,hx9,hM⟩:=zaf hM
   refine zaL (xs:=a1) (f:=SpotR_.cells) (z:=v7) (u:=x9) (by decide) rfl rfl zha hx9 ?_
   refine Olg (.agg (SpotR_.cells x9)) zlA ?_
   refine Olg (.agg (SpotR_.cells a2)) zlA ?_
   refine zwO (cs:=(SpotR_.cells x9)) (ds:=(SpotR_.cells a2)) (e:=((x9.stand.Place==a2.stand.Place)&&((x9.stand.Credit==a2.stand.Credit)&&((x9.bought==a2.bought)&&true)))) (by decide) rfl rfl zrq rfl ?_
   refine Ni ?_
   refine Ws ?_
   rcases bft ((x9.stand.Place==a2.stand.Place)&&((x9.stand.Credit==a2.stand.Credit)&&((x9.bought==a2.bought)&&true))) with hb10 | hb10
   ·replace hM:=ifT hM hb10
    refine Ct hb10 ?_
    refine Sq ?_
    refine Rg 2 ?_
    refine Om (.sl (.id w0) 3 (a1.map SpotR_.cells)) ?_
    refine Oa (.sl (.id w0) 3 (a1.map SpotR_.cells)) ?_
    refine Ni ?_
    refine Ws ?_
    refine zaQ ?_
    refine zaZ ?_
    refine zap ?_
    refine zbs ?_
    refine zaZ ?_
    refine zbJ ?_
    refine zhZ (x:=.sl (.id w0) 3 (a1.map SpotR_.cells)) (f:=fun r=>.sl (.id w0) 3 (r.map SpotR_.cells)) (fd:=fun r=>[(w0,.row 202 r.length)]) (.inr rfl) ?_ (.refl _) (Option.some.inj hM) hS 0 rfl
    exact (zaA (zae (x:=.sl (.id w0) 3 (a1.map SpotR_.cells)) rfl))
   ·replace hM:=ifF hM hb10
    refine Cf hb10 ?_
    refine zax ?_
    refine zag ?_
    refine Ws ?_
    refine Rg 3 ?_
    refine Om (.i v7) ?_
    refine Oi (.i (w64 (v7+1))) ?_
    refine Oa (.i (w64 (v7+1))) ?_
    refine Ni ?_
    exact za1 (w64 (v7+1)) (Nat.lt_succ_self _) (.k (.k (.k (.k .nil)))) ⟨(hS.keep [true] rfl).up (by omega),hM⟩
  ·replace hM:=ifF hM hb8
   refine Cf hb8 ?_
   refine za8 ?_
   refine zal ?_
   refine zaj ?_
   refine zar ?_
   exact zam () (.k (.k (.k .nil))) ⟨(hS.keep [true] rfl).up (by omega),hM⟩
theorem zjh {w0:Nat} (hnd:[w0].Nodup):∀{n:Nat} {a0:Wheel} {a1:List SpotR_} {a2:SpotR_} {r:(List SpotR_)},zfo n a0 a1 a2=some r->zk2 Try.prog 136 [.agg (Wheel.cells a0),.sl (.id w0) 3 (a1.map SpotR_.cells),.agg (SpotR_.cells a2)] [(w0,.row 202 a1.length)] (.sl (.id w0) 3 (r.map SpotR_.cells)) [(w0,.row 202 r.length)]
 | 0,_,_,_,_,h=>nomatch (show none=some _ from h)
 | n+1,_,_,_,_,h=>znv hnd (n:=n) (rec:=zfo n) (fun h=>zjh hnd h) h
theorem zmp {n:Nat} {a0:List Int} {a1:List Int} {r:Int} (hM:zik n a0 a1=some r):zaD Try.prog 137 [.sl .no 1 (a0.map cI),.sl .no 1 (a1.map cI)] (.i r):=by
 refine zak mixed Try.func137 rfl (by decide) Try.ntmps137 (by simp) ?pure fun H0 g hf=>?_
 case pure=>exact .v _
 rw [zai]
 change wpA _ _ _ _ (Fr.of [(0,.sl .no 1 (a0.map cI)),(1,.sl .no 1 (a1.map cI))]) H0 g
 have hS:=St.start hf
 refine Sq ?_
 refine Rg 1 ?_
 refine Oa (.i 0) ?_
 refine Ni ?_
 refine Ws ?_
 refine Sq ?_
 refine Rg 1 ?_
 refine Oa (.i 0) ?_
 refine Ni ?_
 refine Ws ?_
 refine zaW (J:=Int) (fun j=>[(5,.i j)]) (fun j H' g'=>St (·<g) H0 [] H' g'/\zfp j=some r) ?_ ?_
 ·rintro v1 H g1 ⟨hS,hM⟩
  change wpA _ _ _ _ (Fr.of [(5,.i v1)]) _ _
  replace hS:St (·<g) H0 [] H g1:=hS
  replace hM:zfp v1=some r:=hM
  refine Sq ?_
  refine Rg 2 ?_
  refine Om (.i v1) ?_
  refine Oa (.i v1) ?_
  refine Ni ?_
  refine Ws ?_
  refine zaQ ?_
  refine zaY (x:=.i v1) (f:=fun r=>.i r) (.inr rfl) ?_ (.refl _) (Option.some.inj hM) hS
  exact (zaA (zae (x:=.i v1) rfl))
 ·refine Sq ?_
  refine Rg 1 ?_
  refine Oa (.i 0) ?_
  refine Ni ?_
  refine Ws ?_
  refine zao ?_
  refine zbj (V:=Int×Int) (fun v=>[(0,.sl .no 1 (a0.map cI)),(1,.sl .no 1 (a1.map cI)),(5,.i v.1),(6,.i v.2)]) (fun v m2 H' g'=>St (·<g) H0 [] H' g'/\zcL a0 a1 m2 v.1 v.2=some r) (n:=n) (0,0) (.k (.k (.k (.k .nil)))) ⟨(hS.keep [] rfl).up (by omega),hM⟩ ?_
  rintro ⟨v2,v3⟩ m2 H g2 ⟨hS,hM⟩
  obtain _ | m2:=m2
  ·exact nomatch (show none=some _ from hM)
  change wpA _ _ _ _ (Fr.of [(0,.sl .no 1 (a0.map cI)),(1,.sl .no 1 (a1.map cI)),(5,.i v2),(6,.i v3)]) _ _
  replace hS:St (·<g) H0 [] H g2:=hS
  replace hM:zeB a0 a1 (zcL a0 a1 m2) v2 v3=some r:=hM
  refine Sq ?_
  refine Sq ?_
  refine Rg 4 ?_
  refine Om (.i v3) ?_
  refine Om (.sl .no 1 (a1.map cI)) ?_
  refine zbi (n:=a1.length) (by decide) rfl (List.length_map _) zaM ?_
  refine Oi (.b (decide (v3<(a1.length:Int)))) ?_
  refine Ni ?_
  refine Ws ?_
  rcases bft (decide (v3<(a1.length:Int))) with hb4 | hb4
  ·replace hM:=ifT hM hb4
   refine Ct hb4 ?_
   refine zax ?_
   refine Ws ?_
   refine Sq ?_
   refine zao ?_
   have hS0:=hS
   refine zcg (n:=13) rfl (by kernel_rfl) ?_
   refine Om (.i v2) ?_
   refine Om (.sl .no 1 (a0.map cI)) ?_
   refine Om (.i v3) ?_
   obtain ⟨x5,hx5,hM⟩:=zaf hM
   refine zaL (xs:=a0) (f:=cI) (z:=v3) (u:=x5) (by decide) rfl rfl zaw hx5 ?_
   refine Olp (.i x5) zah zas ?_
   refine Om (.sl .no 1 (a1.map cI)) ?_
   refine Om (.i v3) ?_
   obtain ⟨x6,hx6,hM⟩:=zaf hM
   refine zaL (xs:=a1) (f:=cI) (z:=v3) (u:=x6) (by decide) rfl rfl zaw hx6 ?_
   refine Olp (.i x6) zah zas ?_
   refine Oi (.i (w64 (x5-x6))) ?_
   refine zsn (v:=.i (max 0 (w64 (x5-x6)))) (by decide) rfl ?_
   refine Oi (.i (w64 (v2+(max 0 (w64 (x5-x6)))))) ?_
   refine Oa (.i (w64 (v2+(max 0 (w64 (x5-x6)))))) ?_
   refine Ni ?_
   refine zag ?_
   refine Ws ?_
   refine Rg 3 ?_
   refine Om (.i v3) ?_
   refine Oi (.i (w64 (v3+1))) ?_
   refine Oa (.i (w64 (v3+1))) ?_
   refine Ni ?_
   exact za1 (w64 (v2+(max 0 (w64 (x5-x6)))),w64 (v3+1)) (Nat.lt_succ_self _) (.k (.k (.k (.k .nil)))) ⟨(hS.keep [] rfl).up (by omega),hM⟩
  ·replace hM:=ifF hM hb4
   refine Cf hb4 ?_
   refine za8 ?_
   refine zal ?_
   refine zaj ?_
   refine zar ?_
   exact zam v2 (.k .nil) ⟨(hS.keep [] rfl).up (by omega),hM⟩
theorem znw {n:Nat} {a0:List Int} {a1:List Int} {r:Int} (hM:zjc n a0 a1=some r):zaD Try.prog 138 [.sl .no 1 (a0.map cI),.sl .no 1 (a1.map cI)] (.i r):=by
 refine zak mixed Try.func138 rfl (by decide) Try.ntmps138 (by simp) ?pure fun H0 g hf=>?_
 case pure=>exact .v _
 rw [zai]
 change wpA _ _ _ _ (Fr.of [(0,.sl .no 1 (a0.map cI)),(1,.sl .no 1 (a1.map cI))]) H0 g
 have hS:=St.start hf
 refine Sq ?_
 refine Rg 1 ?_
 refine Oa (.i 0) ?_
 refine Ni ?_
 refine Ws ?_
 refine Sq ?_
 refine Rg 1 ?_
 refine Oa (.i 0) ?_
 refine Ni ?_
 refine Ws ?_
 refine zaW (J:=Int) (fun j=>[(5,.i j)]) (fun j H' g'=>St (·<g) H0 [] H' g'/\zf4 j=some r) ?_ ?_
 ·rintro v1 H g1 ⟨hS,hM⟩
  change wpA _ _ _ _ (Fr.of [(5,.i v1)]) _ _
  replace hS:St (·<g) H0 [] H g1:=hS
  replace hM:zf4 v1=some r:=hM
  refine Sq ?_
  refine Rg 2 ?_
  refine Om (.i v1) ?_
  refine Oa (.i v1) ?_
  refine Ni ?_
  refine Ws ?_
  refine zaQ ?_
  refine zaY (x:=.i v1) (f:=fun r=>.i r) (.inr rfl) ?_ (.refl _) (Option.some.inj hM) hS
  exact (zaA (zae (x:=.i v1) rfl))
 ·refine Sq ?_
  refine Rg 1 ?_
  refine Oa (.i 0) ?_
  refine Ni ?_
  refine Ws ?_
  refine zao ?_
  refine zbj (V:=Int×Int) (fun v=>[(0,.sl .no 1 (a0.map cI)),(1,.sl .no 1 (a1.map cI)),(5,.i v.1),(6,.i v.2)]) (fun v m2 H' g'=>St (·<g) H0 [] H' g'/\zc9 a0 a1 m2 v.1 v.2=some r) (n:=n) (0,0) (.k (.k (.k (.k .nil)))) ⟨(hS.keep [] rfl).up (by omega),hM⟩ ?_
  rintro ⟨v2,v3⟩ m2 H g2 ⟨hS,hM⟩
  obtain _ | m2:=m2
  ·exact nomatch (show none=some _ from hM)
  change wpA _ _ _ _ (Fr.of [(0,.sl .no 1 (a0.map cI)),(1,.sl .no 1 (a1.map cI)),(5,.i v2),(6,.i v3)]) _ _
  replace hS:St (·<g) H0 [] H g2:=hS
  replace hM:zeY a0 a1 (zc9 a0 a1 m2) v2 v3=some r:=hM
  refine Sq ?_
  refine Sq ?_
  refine Rg 4 ?_
  refine Om (.i v3) ?_
  refine Om (.sl .no 1 (a0.map cI)) ?_
  refine zbi (n:=a0.length) (by decide) rfl (List.length_map _) zaM ?_
  refine Oi (.b (decide (v3<(a0.length:Int)))) ?_
  refine Ni ?_
  refine Ws ?_
  rcases bft (decide (v3<(a0.length:Int))) with hb4 | hb4
  ·replace hM:=ifT hM hb4
   refine Ct hb4 ?_
   refine zax ?_
   refine Ws ?_
   refine Sq ?_
   refine zao ?_
   have hS0:=hS
   refine zcg (n:=13) rfl (by kernel_rfl) ?_
   refine Om (.i v2) ?_
   refine Om (.sl .no 1 (a0.map cI)) ?_
   refine Om (.i v3) ?_
   obtain ⟨x5,hx5,hM⟩:=zaf hM
   refine zaL (xs:=a0) (f:=cI) (z:=v3) (u:=x5) (by decide) rfl rfl zaw hx5 ?_
   refine Olp (.i x5) zah zas ?_
   refine Oi (.i (w64 (x5+1))) ?_
   refine Oi (.i (w64 (v2*(w64 (x5+1))))) ?_
   refine Om (.sl .no 1 (a1.map cI)) ?_
   refine Om (.i v3) ?_
   obtain ⟨x6,hx6,hM⟩:=zaf hM
   refine zaL (xs:=a1) (f:=cI) (z:=v3) (u:=x6) (by decide) rfl rfl zaw hx6 ?_
   refine Olp (.i x6) zah zas ?_
   refine Oi (.i (w64 ((w64 (v2*(w64 (x5+1))))+x6))) ?_
   refine Oa (.i (w64 ((w64 (v2*(w64 (x5+1))))+x6))) ?_
   refine Ni ?_
   refine zag ?_
   refine Ws ?_
   refine Rg 3 ?_
   refine Om (.i v3) ?_
   refine Oi (.i (w64 (v3+1))) ?_
   refine Oa (.i (w64 (v3+1))) ?_
   refine Ni ?_
   exact za1 (w64 ((w64 (v2*(w64 (x5+1))))+x6),w64 (v3+1)) (Nat.lt_succ_self _) (.k (.k (.k (.k .nil)))) ⟨(hS.keep [] rfl).up (by omega),hM⟩
  ·replace hM:=ifF hM hb4
   refine Cf hb4 ?_
   refine za8 ?_
   refine zal ?_
   refine zaj ?_
   refine zar ?_
   exact zam v2 (.k .nil) ⟨(hS.keep [] rfl).up (by omega),hM⟩
theorem zop {a0:List Int} {a1:Int} {r:(List Int)} (hM:zhr a0 a1=some r):zaD Try.prog 139 [.sl .no 1 (a0.map cI),.i a1] (.sl .no 1 (r.map cI)):=by
 refine zak mixed Try.func139 rfl (by decide) Try.ntmps139 (by simp) ?pure fun H0 g hf=>?_
 case pure=>exact .sl _ _ (zaC (fun x=>(zab (.v _) zaG)))
 rw [zai]
 change wpA _ _ _ _ (Fr.of [(0,.sl .no 1 (a0.map cI)),(1,.i a1)]) H0 g
 have hS:=St.start hf
 refine Sq ?_
 refine Rg 1 ?_
 refine Oa (.sl .nil 0 []) ?_
 refine Ni ?_
 refine Ws ?_
 refine Sq ?_
 refine Rg 4 ?_
 refine zmJ (es:=[]) (by decide) zaw zbm rfl zbe rfl (by decide) ?_
 refine Om (.sl .no 1 (a0.map cI)) ?_
 obtain ⟨l1,hl1,hM⟩:=zaf hM
 refine zt7 (ys:=a0) (zs:=l1) (f:=cI) hS (by decide) rfl rfl zaw zbe (fun _=>rfl) hl1 (by omega) fun H hS=>?_
 refine Oa (msn (g+1+2) 1 l1.length) ?_
 refine Ni ?_
 refine Ws ?_
 refine Sq ?_
 refine Rg 7 ?_
 refine Om (msn (g+1+2) 1 l1.length) ?_
 refine Om (.i a1) ?_
 obtain ⟨x2,hx2,hM⟩:=zaf hM
 refine ziH (xs:=l1) (f:=cI) (z:=a1) (u:=x2) hS (by decide) rfl rfl zaw hx2 ?_
 refine zpk (xs:=l1) (z:=a1) (u:=x2) hS (by decide) rfl hx2 .no zah zas ?_
 refine Oi (.i (w64 (x2-1))) ?_
 obtain ⟨x3,hx3,hM⟩:=zaf hM
 refine ziH (xs:=l1) (f:=cI) (z:=a1) (u:=x3) hS (by decide) rfl rfl zaw hx3 ?_
 refine znf (xs:=l1) (z:=a1) (u:=x3) (v:=(w64 (x2-1))) hS rfl hx3 .no rfl zjd fun H hS=>?_
 refine Ni ?_
 refine Ws ?_
 refine Sq ?_
 refine Rg 2 ?_
 refine Om (msn (g+1+2) 1 l1.length) ?_
 refine Oa (msn (g+1+2) 1 l1.length) ?_
 refine Ni ?_
 refine zw0 (t:=4) (k:=1) (es:=(l1.set (Int.toNat a1) (w64 (x2-1))).map cI) hS.thaw (by rw [zvr hS.len];rfl) (by decide) (zt5 (fun _=>rfl)) (zuW (fun x=>(zvs zw3))) fun H hS=>?_
 refine zeJ [(4,.sl .no 1 ((l1.set (Int.toNat a1) (w64 (x2-1))).map cI))] (.k .nil) ?_
 refine zaQ ?_
 refine zaY (x:=.sl .no 1 ((l1.set (Int.toNat a1) (w64 (x2-1))).map cI)) (f:=fun r=>.sl .no 1 (r.map cI)) (.inr rfl) ?_ (.refl _) (Option.some.inj hM) hS
 exact (zaA (zae (x:=.sl .no 1 ((l1.set (Int.toNat a1) (w64 (x2-1))).map cI)) rfl))
theorem zlS {n:Nat} {a0:List SpotR_} {r:(List Int)} (hM:zgG n a0=some r):zaD Try.prog 140 [.sl .no 3 (a0.map SpotR_.cells)] (.sl .no 1 (r.map cI)):=by
 refine zak mixed Try.func140 rfl (by decide) Try.ntmps140 (by simp) ?pure fun H0 g hf=>?_
 case pure=>exact .sl _ _ (zaC (fun x=>(zab (.v _) zaG)))
 rw [zai]
 change wpA _ _ _ _ (Fr.of [(0,.sl .no 3 (a0.map SpotR_.cells))]) H0 g
 have hS:=St.start hf
 refine Sq ?_
 refine Rg 1 ?_
 refine Oa (.sl .nil 0 []) ?_
 refine Ni ?_
 refine Ws ?_
 refine Sq ?_
 refine Rg 1 ?_
 refine Oa (.i 0) ?_
 refine Ni ?_
 refine Ws ?_
 refine zaW (J:=Int) (fun j=>[(0,.sl .no 3 (a0.map SpotR_.cells)),(3,.i j)]) (fun j H' g'=>St (·<g) H0 [] H' g'/\zdP n a0 j=some r) ?_ ?_
 ·rintro v1 H g1 ⟨hS,hM⟩
  change wpA _ _ _ _ (Fr.of [(0,.sl .no 3 (a0.map SpotR_.cells)),(3,.i v1)]) _ _
  replace hS:St (·<g) H0 [] H g1:=hS
  replace hM:zdP n a0 v1=some r:=hM
  refine Sq ?_
  refine Rg 1 ?_
  refine Oa (.sl .nil 0 []) ?_
  refine Ni ?_
  refine zml [(0,.sl .no 3 (a0.map SpotR_.cells)),(3,.i v1),(5,.sl (.id (g1+1)) 1 (([]:List Int).map cI))] 5 1 3 hS (by omega) (by decide) rfl (.k (.k (.k .nil))) fun H hS=>?_
  refine zaW (J:=(List Int)) (fun j=>[(5,.sl (.id (g1+1)) 1 (j.map cI))]) (fun j H' g'=>St (·<g) H0 [(g1+1,.row 3 j.length)] H' g'/\zeZ j=some r) ?_ ?_
  ·rintro v2 H g2 ⟨hS,hM⟩
   change wpA _ _ _ _ (Fr.of [(5,.sl (.id (g1+1)) 1 (v2.map cI))]) _ _
   replace hS:St (·<g) H0 [(g1+1,.row 3 v2.length)] H g2:=hS
   replace hM:zeZ v2=some r:=hM
   refine Sq ?_
   refine Rg 2 ?_
   refine Om (.sl (.id (g1+1)) 1 (v2.map cI)) ?_
   refine Oa (.sl (.id (g1+1)) 1 (v2.map cI)) ?_
   refine Ni ?_
   refine Ws ?_
   refine zaQ ?_
   refine zaY (x:=.sl (.id (g1+1)) 1 (v2.map cI)) (f:=fun r=>.sl .no 1 (r.map cI)) (.inr rfl) ?_ (.sl _ _ _) (Option.some.inj hM) hS
   exact (zaA (zae (x:=.sl (.id (g1+1)) 1 (v2.map cI)) rfl))
  ·refine Sq ?_
   refine Rg 1 ?_
   refine Oa (.i 0) ?_
   refine Ni ?_
   refine Ws ?_
   refine zao ?_
   refine zbj (V:=(List Int)×Int) (fun v=>[(0,.sl .no 3 (a0.map SpotR_.cells)),(3,.i v1),(5,.sl (.id (g1+1)) 1 (v.1.map cI)),(6,.i v.2)]) (fun v m3 H' g'=>St (·<g) H0 [(g1+1,.row 3 v.1.length)] H' g'/\za6 n a0 v1 m3 v.1 v.2=some r) (n:=n) (([]:List Int),0) (.k (.k (.k (.k .nil)))) ⟨(hS.keep [true] rfl).up (by omega),hM⟩ ?_
   rintro ⟨v3,v4⟩ m3 H g3 ⟨hS,hM⟩
   obtain _ | m3:=m3
   ·exact nomatch (show none=some _ from hM)
   change wpA _ _ _ _ (Fr.of [(0,.sl .no 3 (a0.map SpotR_.cells)),(3,.i v1),(5,.sl (.id (g1+1)) 1 (v3.map cI)),(6,.i v4)]) _ _
   replace hS:St (·<g) H0 [(g1+1,.row 3 v3.length)] H g3:=hS
   replace hM:zd5 n a0 v1 (za6 n a0 v1 m3) v3 v4=some r:=hM
   refine Sq ?_
   refine Sq ?_
   refine Rg 3 ?_
   refine Om (.i v4) ?_
   refine Om (.i v1) ?_
   refine Oi (.b (decide (v4<=v1))) ?_
   refine Ni ?_
   refine Ws ?_
   rcases bft (decide (v4<=v1)) with hb5 | hb5
   ·replace hM:=ifT hM hb5
    refine Ct hb5 ?_
    refine zax ?_
    refine Ws ?_
    refine zaW (J:=(List Int)) (fun j=>[(0,.sl .no 3 (a0.map SpotR_.cells)),(3,.i v1),(5,.sl (.id (g1+1)) 1 (j.map cI)),(6,.i v4)]) (fun j H' g'=>St (·<g) H0 [(g1+1,.row 3 j.length)] H' g'/\zcx (za6 n a0 v1 m3) v4 j=some r) ?_ ?_
    ·rintro v6 H g4 ⟨hS,hM⟩
     change wpA _ _ _ _ (Fr.of [(0,.sl .no 3 (a0.map SpotR_.cells)),(3,.i v1),(5,.sl (.id (g1+1)) 1 (v6.map cI)),(6,.i v4)]) _ _
     replace hS:St (·<g) H0 [(g1+1,.row 3 v6.length)] H g4:=hS
     replace hM:zcx (za6 n a0 v1 m3) v4 v6=some r:=hM
     refine Rg 3 ?_
     refine Om (.i v4) ?_
     refine Oi (.i (w64 (v4+1))) ?_
     refine Oa (.i (w64 (v4+1))) ?_
     refine Ni ?_
     exact za1 (v6,w64 (v4+1)) (Nat.lt_succ_self _) (.k (.k (.k (.k .nil)))) ⟨(hS.keep [true] rfl).up (by omega),hM⟩
    ·refine zao ?_
     refine Sq ?_
     refine Rg 1 ?_
     refine Oa (.i 0) ?_
     refine Ni ?_
     refine Ws ?_
     refine zao ?_
     refine zbj (V:=(List Int)×Int) (fun v=>[(0,.sl .no 3 (a0.map SpotR_.cells)),(3,.i v1),(5,.sl (.id (g1+1)) 1 (v.1.map cI)),(6,.i v4),(7,.i v.2)]) (fun v m5 H' g'=>St (·<g) H0 [(g1+1,.row 3 v.1.length)] H' g'/\zb5 (za6 n a0 v1 m3) a0 v4 m5 v.1 v.2=some r) (n:=n) (v3,0) (.k (.k (.k (.k (.k .nil))))) ⟨(hS.keep [true] rfl).up (by omega),hM⟩ ?_
     rintro ⟨v7,v8⟩ m5 H g5 ⟨hS,hM⟩
     obtain _ | m5:=m5
     ·exact nomatch (show none=some _ from hM)
     change wpA _ _ _ _ (Fr.of [(0,.sl .no 3 (a0.map SpotR_.cells)),(3,.i v1),(5,.sl (.id (g1+1)) 1 (v7.map cI)),(6,.i v4),(7,.i v8)]) _ _
     replace hS:St (·<g) H0 [(g1+1,.row 3 v7.length)] H g5:=hS
     replace hM:zd4 (za6 n a0 v1 m3) a0 v4 (zb5 (za6 n a0 v1 m3) a0 v4 m5) v7 v8=some r:=hM
     refine Sq ?_
     refine Sq ?_
     refine Rg 4 ?_
     refine Om (.i v8) ?_
     refine Om (.sl .no 3 (a0.map SpotR_.cells)) ?_
     refine zbi (n:=a0.length) (by decide) rfl (List.length_map _) zjM ?_
     refine Oi (.b (decide (v8<(a0.length:Int)))) ?_
     refine Ni ?_
     refine Ws ?_
     rcases bft (decide (v8<(a0.length:Int))) with hb9 | hb9
     ·replace hM:=ifT hM hb9
      refine Ct hb9 ?_
      refine zax ?_
      refine Ws ?_
      refine Sq ?_
      refine zao ?_
      refine Sq ?_
      refine Rg 7 ?_
      refine Om (.sl .no 3 (a0.map SpotR_.cells)) ?_
      refine Om (.i v8) ?_
      obtain ⟨x10,hx10,hM⟩:=zaf hM
      refine zaL (xs:=a0) (f:=SpotR_.cells) (z:=v8) (u:=x10) (by decide) rfl rfl zha hx10 ?_
      refine Of ((SpotR_.cells x10)) ziN ?_
      refine Olp (.i x10.bought) zah zas ?_
      refine Om (.i v4) ?_
      refine Oi (.b (x10.bought==v4)) ?_
      refine Ni ?_
      refine Ws ?_
      rcases bft (x10.bought==v4) with hb11 | hb11
      ·replace hM:=ifT hM hb11
       refine Ct hb11 ?_
       refine Sq ?_
       refine Rg 5 ?_
       refine Om (.sl (.id (g1+1)) 1 (v7.map cI)) ?_
       refine Om (.i v4) ?_
       refine zaV (es:=[[.i v4]]) hS (by decide) zaw zbm rfl zbe rfl (by decide) (by omega) fun H hS=>?_
       obtain ⟨l12,hl12,hM⟩:=zaf hM
       refine zcp (xs:=v7) (ys:=([v4]:List Int)) (zs:=l12) (f:=cI) (L':=[(g5+4+7+2,.row 3 1),(g1+1,.row 3 l12.length)]) 1 hS (by decide) rfl rfl rfl rfl .no zaw zbm zbe hl12 rfl fun H hS=>?_
       refine Oa (.sl (.id (g1+1)) 1 (l12.map cI)) ?_
       refine Ni ?_
       replace hS:=hS.keep (L':=[(g1+1,.row 3 l12.length)]) [false,true] rfl
       refine Ws ?_
       refine za8 ?_
       refine zpe (by decide) ?_
       refine zal ?_
       refine zaj ?_
       refine zar ?_
       refine zag ?_
       exact zam l12 (.k (.k (.k (.k .nil)))) ⟨(hS.keep [true] rfl).up (by omega),hM⟩
      ·replace hM:=ifF hM hb11
       refine Cf hb11 ?_
       refine zax ?_
       refine zag ?_
       refine Ws ?_
       refine Rg 3 ?_
       refine Om (.i v8) ?_
       refine Oi (.i (w64 (v8+1))) ?_
       refine Oa (.i (w64 (v8+1))) ?_
       refine Ni ?_
       exact za1 (v7,w64 (v8+1)) (Nat.lt_succ_self _) (.k (.k (.k (.k (.k .nil))))) ⟨(hS.keep [true] rfl).up (by omega),hM⟩
     ·replace hM:=ifF hM hb9
      refine Cf hb9 ?_
      refine za8 ?_
      refine zal ?_
      refine zaj ?_
      refine zar ?_
      refine zag ?_
      exact zam v7 (.k (.k (.k (.k .nil)))) ⟨(hS.keep [true] rfl).up (by omega),hM⟩
   ·replace hM:=ifF hM hb5
    refine Cf hb5 ?_
    refine za8 ?_
    refine zal ?_
    refine zaj ?_
    refine zar ?_
    exact zam v3 (.k .nil) ⟨(hS.keep [true] rfl).up (by omega),hM⟩
 ·refine Sq ?_
  refine Rg 1 ?_
  refine Oa (.i 0) ?_
  refine Ni ?_
  refine Ws ?_
  refine zao ?_
  refine zbj (V:=Int×Int) (fun v=>[(0,.sl .no 3 (a0.map SpotR_.cells)),(3,.i v.1),(4,.i v.2)]) (fun v m6 H' g'=>St (·<g) H0 [] H' g'/\zb6 n a0 m6 v.1 v.2=some r) (n:=n) (0,0) (.k (.k (.k .nil))) ⟨(hS.keep [] rfl).up (by omega),hM⟩ ?_
  rintro ⟨v13,v14⟩ m6 H g6 ⟨hS,hM⟩
  obtain _ | m6:=m6
  ·exact nomatch (show none=some _ from hM)
  change wpA _ _ _ _ (Fr.of [(0,.sl .no 3 (a0.map SpotR_.cells)),(3,.i v13),(4,.i v14)]) _ _
  replace hS:St (·<g) H0 [] H g6:=hS
  replace hM:zd6 n a0 (zb6 n a0 m6) v13 v14=some r:=hM
  refine Sq ?_
  refine Sq ?_
  refine Rg 4 ?_
  refine Om (.i v14) ?_
  refine Om (.sl .no 3 (a0.map SpotR_.cells)) ?_
  refine zbi (n:=a0.length) (by decide) rfl (List.length_map _) zjM ?_
  refine Oi (.b (decide (v14<(a0.length:Int)))) ?_
  refine Ni ?_
  refine Ws ?_
  rcases bft (decide (v14<(a0.length:Int))) with hb15 | hb15
  ·replace hM:=ifT hM hb15
   refine Ct hb15 ?_
   refine zax ?_
   refine Ws ?_
   refine Sq ?_
   refine zao ?_
   refine Rg 8 ?_
   refine Om (.i v13) ?_
   refine Om (.sl .no 3 (a0.map SpotR_.cells)) ?_
   refine Om (.i v14) ?_
   obtain ⟨x16,hx16,hM⟩:=zaf hM
   refine zaL (xs:=a0) (f:=SpotR_.cells) (z:=v14) (u:=x16) (by decide) rfl rfl zha hx16 ?_
   refine Of ((SpotR_.cells x16)) ziN ?_
   refine Olp (.i x16.bought) zah zas ?_
   refine zsn (v:=.i (max v13 x16.bought)) (by decide) rfl ?_
   refine Oa (.i (max v13 x16.bought)) ?_
   refine Ni ?_
   refine zag ?_
   refine Ws ?_
   refine Rg 3 ?_
   refine Om (.i v14) ?_
   refine Oi (.i (w64 (v14+1))) ?_
   refine Oa (.i (w64 (v14+1))) ?_
   refine Ni ?_
   exact za1 ((max v13 x16.bought),w64 (v14+1)) (Nat.lt_succ_self _) (.k (.k (.k .nil))) ⟨(hS.keep [] rfl).up (by omega),hM⟩
  ·replace hM:=ifF hM hb15
   refine Cf hb15 ?_
   refine za8 ?_
   refine zal ?_
   refine zaj ?_
   refine zar ?_
   exact zam v13 (.k (.k .nil)) ⟨(hS.keep [] rfl).up (by omega),hM⟩
theorem znx {n:Nat} {a0:Wheel} {a1:List Int} {a2:List Int} {r:(List (List Int))} (hM:zhO n a0 a1 a2=some r):zaD Try.prog 105 [.agg (Wheel.cells a0),.sl .no 1 (a1.map cI),.sl .no 1 (a2.map cI)] (.sl .no 1 (r.map (cL 1 cI))):=by
 refine zak mixed Try.func105 rfl (by decide) Try.ntmps105 (by simp) ?pure fun H0 g hf=>?_
 case pure=>exact .sl _ _ (zaC (fun x=>(zab (.sl _ _ (zaC (fun x=>(zab (.v _) zaG)))) zaG)))
 rw [zai]
 change wpA _ _ _ _ (Fr.of [(0,.agg (Wheel.cells a0)),(1,.sl .no 1 (a1.map cI)),(2,.sl .no 1 (a2.map cI))]) H0 g
 have hS:=St.start hf
 refine Sq ?_
 refine Rg 2 ?_
 refine zcI (v:=.agg (Wheel.cells a0)) (cs:=(Wheel.cells a0)) hS (by decide) rfl rfl (by omega) fun H hS=>?_
 refine Oa (.sl .nil 0 []) ?_
 refine Ni ?_
 refine zbd (L':=[]) 0 3 hS rfl rfl rfl fun H hS=>?_
 refine Ws ?_
 refine Sq ?_
 refine Rg 3 ?_
 refine Om (.sl .no 1 (a1.map cI)) ?_
 obtain ⟨r1,hr1,hM⟩:=zaf hM
 refine zau (bs:=[.sl .no 1 (a1.map cI),.sl .nil 0 []]) (by decide) rfl rfl ((zhX hr1).le (.k (.cons (.sl0 .nil 1 0) .nil))) ?_
 refine Oa (.sl .no 1 (r1.map (cL 1 cI))) ?_
 refine Ni ?_
 refine Ws ?_
 refine Sq ?_
 refine Rg 1 ?_
 refine Oa (.sl .nil 0 []) ?_
 refine Ni ?_
 refine zml [(1,.sl .no 1 (a1.map cI)),(2,.sl .no 1 (a2.map cI)),(3,.ep (Wheel.cells a0)),(7,.sl .no 1 (r1.map (cL 1 cI))),(8,.sl (.id (g+2+3+1)) 1 (([]:List (List SpotR_)).map (cL 3 SpotR_.cells)))] 8 1 199 hS (by omega) (by decide) rfl (.k (.k (.k (.k (.k .nil))))) fun H hS=>?_
 refine Sq ?_
 refine Rg 1 ?_
 refine Oa (.sl .nil 0 []) ?_
 refine Ni ?_
 refine zml [(1,.sl .no 1 (a1.map cI)),(2,.sl .no 1 (a2.map cI)),(3,.ep (Wheel.cells a0)),(7,.sl .no 1 (r1.map (cL 1 cI))),(8,.sl (.id (g+2+3+1)) 1 (([]:List (List SpotR_)).map (cL 3 SpotR_.cells))),(9,.sl (.id (g+2+3+1+1+1)) 1 (([]:List (List Int)).map (cL 1 cI)))] 9 1 22 hS (by omega) (by decide) rfl (.k (.k (.k (.k (.k (.k .nil)))))) fun H hS=>?_
 refine zaW (J:=(List (List Int))) (fun j=>[(9,.sl (.id (g+2+3+1+1+1)) 1 (j.map (cL 1 cI)))]) (fun j H' g'=>St (·<g) H0 [(g+2+3+1+1+1,.row 22 j.length)] H' g'/\zf5 j=some r) ?_ ?_
 ·rintro v2 H g1 ⟨hS,hM⟩
  change wpA _ _ _ _ (Fr.of [(9,.sl (.id (g+2+3+1+1+1)) 1 (v2.map (cL 1 cI)))]) _ _
  replace hS:St (·<g) H0 [(g+2+3+1+1+1,.row 22 v2.length)] H g1:=hS
  replace hM:zf5 v2=some r:=hM
  refine Sq ?_
  refine Rg 2 ?_
  refine Om (.sl (.id (g+2+3+1+1+1)) 1 (v2.map (cL 1 cI))) ?_
  refine Oa (.sl (.id (g+2+3+1+1+1)) 1 (v2.map (cL 1 cI))) ?_
  refine Ni ?_
  refine Ws ?_
  refine zaQ ?_
  refine zaY (x:=.sl (.id (g+2+3+1+1+1)) 1 (v2.map (cL 1 cI))) (f:=fun r=>.sl .no 1 (r.map (cL 1 cI))) (.inr rfl) ?_ (.sl _ _ _) (Option.some.inj hM) hS
  exact (zaA (zae (x:=.sl (.id (g+2+3+1+1+1)) 1 (v2.map (cL 1 cI))) rfl))
 ·refine Sq ?_
  refine Rg 1 ?_
  refine Oa (.i 0) ?_
  refine Ni ?_
  refine Ws ?_
  refine zao ?_
  refine zbj (V:=(List (List SpotR_))×(List (List Int))×Int) (fun v=>[(1,.sl .no 1 (a1.map cI)),(2,.sl .no 1 (a2.map cI)),(3,.ep (Wheel.cells a0)),(7,.sl .no 1 (r1.map (cL 1 cI))),(8,.sl (.id (g+2+3+1)) 1 (v.1.map (cL 3 SpotR_.cells))),(9,.sl (.id (g+2+3+1+1+1)) 1 (v.2.1.map (cL 1 cI))),(10,.i v.2.2)]) (fun v m2 H' g'=>St (·<g) H0 [(g+2+3+1+1+1,.row 22 v.2.1.length),(g+2+3+1,.row 199 v.1.length)] H' g'/\zay n a0 a1 a2 r1 m2 v.1 v.2.1 v.2.2=some r) (n:=n) (([]:List (List SpotR_)),([]:List (List Int)),0) (.k (.k (.k (.k (.k (.k (.k .nil))))))) ⟨(hS.keep [true,true] rfl).up (by omega),hM⟩ ?_
  rintro ⟨v3,v4,v5⟩ m2 H g2 ⟨hS,hM⟩
  obtain _ | m2:=m2
  ·exact nomatch (show none=some _ from hM)
  change wpA _ _ _ _ (Fr.of [(1,.sl .no 1 (a1.map cI)),(2,.sl .no 1 (a2.map cI)),(3,.ep (Wheel.cells a0)),(7,.sl .no 1 (r1.map (cL 1 cI))),(8,.sl (.id (g+2+3+1)) 1 (v3.map (cL 3 SpotR_.cells))),(9,.sl (.id (g+2+3+1+1+1)) 1 (v4.map (cL 1 cI))),(10,.i v5)]) _ _
  replace hS:St (·<g) H0 [(g+2+3+1+1+1,.row 22 v4.length),(g+2+3+1,.row 199 v3.length)] H g2:=hS
  replace hM:ze1 n a0 a1 a2 r1 (zay n a0 a1 a2 r1 m2) v3 v4 v5=some r:=hM
  refine Sq ?_
  refine Sq ?_
  refine Rg 4 ?_
  refine Om (.i v5) ?_
  refine Om (.sl .no 1 (r1.map (cL 1 cI))) ?_
  refine zbi (n:=r1.length) (by decide) rfl (List.length_map _) zjI ?_
  refine Oi (.b (decide (v5<(r1.length:Int)))) ?_
  refine Ni ?_
  refine Ws ?_
  rcases bft (decide (v5<(r1.length:Int))) with hb6 | hb6
  ·replace hM:=ifT hM hb6
   refine Ct hb6 ?_
   refine zax ?_
   refine Ws ?_
   refine zaW (J:=(List (List SpotR_))×(List (List Int))) (fun j=>[(1,.sl .no 1 (a1.map cI)),(2,.sl .no 1 (a2.map cI)),(3,.ep (Wheel.cells a0)),(7,.sl .no 1 (r1.map (cL 1 cI))),(8,.sl (.id (g+2+3+1)) 1 (j.1.map (cL 3 SpotR_.cells))),(9,.sl (.id (g+2+3+1+1+1)) 1 (j.2.map (cL 1 cI))),(10,.i v5)]) (fun j H' g'=>St (·<g) H0 [(g+2+3+1+1+1,.row 22 j.2.length),(g+2+3+1,.row 199 j.1.length)] H' g'/\zf6 (zay n a0 a1 a2 r1 m2) v5 j.1 j.2=some r) ?_ ?_
   ·rintro ⟨v7,v8⟩ H g3 ⟨hS,hM⟩
    change wpA _ _ _ _ (Fr.of [(1,.sl .no 1 (a1.map cI)),(2,.sl .no 1 (a2.map cI)),(3,.ep (Wheel.cells a0)),(7,.sl .no 1 (r1.map (cL 1 cI))),(8,.sl (.id (g+2+3+1)) 1 (v7.map (cL 3 SpotR_.cells))),(9,.sl (.id (g+2+3+1+1+1)) 1 (v8.map (cL 1 cI))),(10,.i v5)]) _ _
    replace hS:St (·<g) H0 [(g+2+3+1+1+1,.row 22 v8.length),(g+2+3+1,.row 199 v7.length)] H g3:=hS
    replace hM:zf6 (zay n a0 a1 a2 r1 m2) v5 v7 v8=some r:=hM
    refine Rg 3 ?_
    refine Om (.i v5) ?_
    refine Oi (.i (w64 (v5+1))) ?_
    refine Oa (.i (w64 (v5+1))) ?_
    refine Ni ?_
    exact za1 (v7,v8,w64 (v5+1)) (Nat.lt_succ_self _) (.k (.k (.k (.k (.k (.k (.k .nil))))))) ⟨(hS.keep [true,true] rfl).up (by omega),hM⟩
   ·refine zao ?_
    refine Sq ?_
    refine Rg 1 ?_
    refine Oa (.sl .nil 0 []) ?_
    refine Ni ?_
    refine zml [(1,.sl .no 1 (a1.map cI)),(2,.sl .no 1 (a2.map cI)),(3,.ep (Wheel.cells a0)),(7,.sl .no 1 (r1.map (cL 1 cI))),(8,.sl (.id (g+2+3+1)) 1 (v3.map (cL 3 SpotR_.cells))),(9,.sl (.id (g+2+3+1+1+1)) 1 (v4.map (cL 1 cI))),(10,.i v5),(11,.sl (.id (g2+4+1)) 3 (([]:List SpotR_).map SpotR_.cells))] 11 3 202 hS (by omega) (by decide) rfl (.k (.k (.k (.k (.k (.k (.k (.k .nil)))))))) fun H hS=>?_
    refine zaW (J:=Nat×List SpotR_) (fun j=>[(1,.sl .no 1 (a1.map cI)),(2,.sl .no 1 (a2.map cI)),(3,.ep (Wheel.cells a0)),(7,.sl .no 1 (r1.map (cL 1 cI))),(8,.sl (.id (g+2+3+1)) 1 (v3.map (cL 3 SpotR_.cells))),(9,.sl (.id (g+2+3+1+1+1)) 1 (v4.map (cL 1 cI))),(10,.i v5),(11,.sl (.id j.1) 3 (j.2.map SpotR_.cells))]) (fun j H' g'=>St (·<g) H0 [(j.1,.row 202 j.2.length),(g+2+3+1+1+1,.row 22 v4.length),(g+2+3+1,.row 199 v3.length)] H' g'/\zdc n (zay n a0 a1 a2 r1 m2) a0 a1 a2 r1 v3 v4 v5 j.2=some r) ?_ ?_
    ·rintro ⟨rho,v9⟩ H g4 ⟨hS,hM⟩
     change wpA _ _ _ _ (Fr.of [(1,.sl .no 1 (a1.map cI)),(2,.sl .no 1 (a2.map cI)),(3,.ep (Wheel.cells a0)),(7,.sl .no 1 (r1.map (cL 1 cI))),(8,.sl (.id (g+2+3+1)) 1 (v3.map (cL 3 SpotR_.cells))),(9,.sl (.id (g+2+3+1+1+1)) 1 (v4.map (cL 1 cI))),(10,.i v5),(11,.sl (.id rho) 3 (v9.map SpotR_.cells))]) _ _
     replace hS:St (·<g) H0 [(rho,.row 202 v9.length),(g+2+3+1+1+1,.row 22 v4.length),(g+2+3+1,.row 199 v3.length)] H g4:=hS
     replace hM:zdc n (zay n a0 a1 a2 r1 m2) a0 a1 a2 r1 v3 v4 v5 v9=some r:=hM
     refine zaW (J:=(List SpotR_)) (fun j=>[(1,.sl .no 1 (a1.map cI)),(2,.sl .no 1 (a2.map cI)),(3,.ep (Wheel.cells a0)),(7,.sl .no 1 (r1.map (cL 1 cI))),(8,.sl (.id (g+2+3+1)) 1 (v3.map (cL 3 SpotR_.cells))),(9,.sl (.id (g+2+3+1+1+1)) 1 (v4.map (cL 1 cI))),(10,.i v5),(11,.sl (.id rho) 3 (j.map SpotR_.cells))]) (fun j H' g'=>St (·<g) H0 [(rho,.row 202 j.length),(g+2+3+1+1+1,.row 22 v4.length),(g+2+3+1,.row 199 v3.length)] H' g'/\zda n (zay n a0 a1 a2 r1 m2) v3 v4 v5 j=some r) ?_ ?_
     ·rintro v10 H g5 ⟨hS,hM⟩
      change wpA _ _ _ _ (Fr.of [(1,.sl .no 1 (a1.map cI)),(2,.sl .no 1 (a2.map cI)),(3,.ep (Wheel.cells a0)),(7,.sl .no 1 (r1.map (cL 1 cI))),(8,.sl (.id (g+2+3+1)) 1 (v3.map (cL 3 SpotR_.cells))),(9,.sl (.id (g+2+3+1+1+1)) 1 (v4.map (cL 1 cI))),(10,.i v5),(11,.sl (.id rho) 3 (v10.map SpotR_.cells))]) _ _
      replace hS:St (·<g) H0 [(rho,.row 202 v10.length),(g+2+3+1+1+1,.row 22 v4.length),(g+2+3+1,.row 199 v3.length)] H g5:=hS
      replace hM:zda n (zay n a0 a1 a2 r1 m2) v3 v4 v5 v10=some r:=hM
      refine Rg 11 ?_
      refine Om (.sl (.id (g+2+3+1)) 1 (v3.map (cL 3 SpotR_.cells))) ?_
      refine Om (.sl (.id rho) 3 (v10.map SpotR_.cells)) ?_
      refine zjA (es:=[[.sl (.id rho) 3 (v10.map SpotR_.cells)]]) (es':=[[.sl .no 3 (v10.map SpotR_.cells)]]) hS (by decide) znq zqd rfl zqe rfl (by decide) (by omega) (zp3 (zp4 (.cons (.sl _ _ _) .nil))) fun H hS=>?_
      obtain ⟨l11,hl11,hM⟩:=zaf hM
      refine zcp (xs:=v3) (ys:=([v10]:List (List SpotR_))) (zs:=l11) (f:=(cL 3 SpotR_.cells)) (L':=[(g5+2,.row 199 1),(rho,.row 202 v10.length),(g+2+3+1+1+1,.row 22 v4.length),(g+2+3+1,.row 199 l11.length)]) 3 hS (by decide) rfl rfl rfl rfl .no znq zqd zqe hl11 rfl fun H hS=>?_
      refine Om (.sl (.id (g+2+3+1+1+1)) 1 (v4.map (cL 1 cI))) ?_
      refine Om (.sl (.id rho) 3 (v10.map SpotR_.cells)) ?_
      obtain ⟨r12,hr12,hM⟩:=zaf hM
      refine zau (bs:=[.sl (.id rho) 3 (v10.map SpotR_.cells)]) (by decide) rfl rfl ((zlS hr12).le (.cons (.sl _ _ _) .nil)) ?_
      refine zaV (es:=[[.sl .no 1 (r12.map cI)]]) hS (by decide) zd9 ziJ rfl ziK rfl (by decide) (by omega) fun H hS=>?_
      obtain ⟨l13,hl13,hM⟩:=zaf hM
      refine zcp (xs:=v4) (ys:=([r12]:List (List Int))) (zs:=l13) (f:=(cL 1 cI)) (L':=[(g5+7,.row 22 1),(g5+2,.row 199 1),(rho,.row 202 v10.length),(g+2+3+1+1+1,.row 22 l13.length),(g+2+3+1,.row 199 l11.length)]) 3 hS (by decide) rfl rfl rfl rfl .no zd9 ziJ ziK hl13 rfl fun H hS=>?_
      refine Oa (.sl (.id (g+2+3+1)) 1 (l11.map (cL 3 SpotR_.cells))) ?_
      refine Oa (.sl (.id (g+2+3+1+1+1)) 1 (l13.map (cL 1 cI))) ?_
      refine Ni ?_
      refine zag ?_
      exact zam (l11,l13) (.k (.k (.k (.k (.k (.k (.k .nil))))))) ⟨(hS.keep [false,false,false,true,true] rfl).up (by omega),hM⟩
     ·refine Sq ?_
      refine Rg 1 ?_
      refine Oa (.i 0) ?_
      refine Ni ?_
      refine Ws ?_
      refine zao ?_
      refine zbj (V:=(List SpotR_)×Int) (fun v=>[(1,.sl .no 1 (a1.map cI)),(2,.sl .no 1 (a2.map cI)),(3,.ep (Wheel.cells a0)),(7,.sl .no 1 (r1.map (cL 1 cI))),(8,.sl (.id (g+2+3+1)) 1 (v3.map (cL 3 SpotR_.cells))),(9,.sl (.id (g+2+3+1+1+1)) 1 (v4.map (cL 1 cI))),(10,.i v5),(11,.sl (.id rho) 3 (v.1.map SpotR_.cells)),(12,.i v.2)]) (fun v m6 H' g'=>St (·<g) H0 [(rho,.row 202 v.1.length),(g+2+3+1+1+1,.row 22 v4.length),(g+2+3+1,.row 199 v3.length)] H' g'/\zaX n (zay n a0 a1 a2 r1 m2) a0 a1 a2 r1 v3 v4 v5 m6 v.1 v.2=some r) (n:=n) (v9,0) (.k (.k (.k (.k (.k (.k (.k (.k (.k .nil))))))))) ⟨(hS.keep [true,true,true] rfl).up (by omega),hM⟩ ?_
      rintro ⟨v14,v15⟩ m6 H g6 ⟨hS,hM⟩
      obtain _ | m6:=m6
      ·exact nomatch (show none=some _ from hM)
      change wpA _ _ _ _ (Fr.of [(1,.sl .no 1 (a1.map cI)),(2,.sl .no 1 (a2.map cI)),(3,.ep (Wheel.cells a0)),(7,.sl .no 1 (r1.map (cL 1 cI))),(8,.sl (.id (g+2+3+1)) 1 (v3.map (cL 3 SpotR_.cells))),(9,.sl (.id (g+2+3+1+1+1)) 1 (v4.map (cL 1 cI))),(10,.i v5),(11,.sl (.id rho) 3 (v14.map SpotR_.cells)),(12,.i v15)]) _ _
      replace hS:St (·<g) H0 [(rho,.row 202 v14.length),(g+2+3+1+1+1,.row 22 v4.length),(g+2+3+1,.row 199 v3.length)] H g6:=hS
      replace hM:zdQ n (zay n a0 a1 a2 r1 m2) a0 a1 a2 r1 v3 v4 v5 (zaX n (zay n a0 a1 a2 r1 m2) a0 a1 a2 r1 v3 v4 v5 m6) v14 v15=some r:=hM
      refine Sq ?_
      refine zaW (J:=Bool) (fun j=>[(1,.sl .no 1 (a1.map cI)),(2,.sl .no 1 (a2.map cI)),(3,.ep (Wheel.cells a0)),(7,.sl .no 1 (r1.map (cL 1 cI))),(8,.sl (.id (g+2+3+1)) 1 (v3.map (cL 3 SpotR_.cells))),(9,.sl (.id (g+2+3+1+1+1)) 1 (v4.map (cL 1 cI))),(10,.i v5),(11,.sl (.id rho) 3 (v14.map SpotR_.cells)),(12,.i v15),(46,.b j)]) (fun j H' g'=>St (·<g) H0 [(rho,.row 202 v14.length),(g+2+3+1+1+1,.row 22 v4.length),(g+2+3+1,.row 199 v3.length)] H' g'/\zcG n (zay n a0 a1 a2 r1 m2) (zaX n (zay n a0 a1 a2 r1 m2) a0 a1 a2 r1 v3 v4 v5 m6) a0 a1 r1 v3 v4 v5 v14 v15 j=some r) ?_ ?_
      ·rintro v16 H g7 ⟨hS,hM⟩
       change wpA _ _ _ _ (Fr.of [(1,.sl .no 1 (a1.map cI)),(2,.sl .no 1 (a2.map cI)),(3,.ep (Wheel.cells a0)),(7,.sl .no 1 (r1.map (cL 1 cI))),(8,.sl (.id (g+2+3+1)) 1 (v3.map (cL 3 SpotR_.cells))),(9,.sl (.id (g+2+3+1+1+1)) 1 (v4.map (cL 1 cI))),(10,.i v5),(11,.sl (.id rho) 3 (v14.map SpotR_.cells)),(12,.i v15),(46,.b v16)]) _ _
       replace hS:St (·<g) H0 [(rho,.row 202 v14.length),(g+2+3+1+1+1,.row 22 v4.length),(g+2+3+1,.row 199 v3.length)] H g7:=hS
       replace hM:zcG n (zay n a0 a1 a2 r1 m2) (zaX n (zay n a0 a1 a2 r1 m2) a0 a1 a2 r1 v3 v4 v5 m6) a0 a1 r1 v3 v4 v5 v14 v15 v16=some r:=hM
       rcases bft v16 with hb17 | hb17
       ·replace hM:=ifT hM hb17
        refine Ct hb17 ?_
        refine zax ?_
        refine Ws ?_
        refine zaW (J:=(List SpotR_)) (fun j=>[(1,.sl .no 1 (a1.map cI)),(2,.sl .no 1 (a2.map cI)),(3,.ep (Wheel.cells a0)),(7,.sl .no 1 (r1.map (cL 1 cI))),(8,.sl (.id (g+2+3+1)) 1 (v3.map (cL 3 SpotR_.cells))),(9,.sl (.id (g+2+3+1+1+1)) 1 (v4.map (cL 1 cI))),(10,.i v5),(11,.sl (.id rho) 3 (j.map SpotR_.cells)),(12,.i v15)]) (fun j H' g'=>St (·<g) H0 [(rho,.row 202 j.length),(g+2+3+1+1+1,.row 22 v4.length),(g+2+3+1,.row 199 v3.length)] H' g'/\zdb (zaX n (zay n a0 a1 a2 r1 m2) a0 a1 a2 r1 v3 v4 v5 m6) v15 j=some r) ?_ ?_
        ·rintro v18 H g8 ⟨hS,hM⟩
         change wpA _ _ _ _ (Fr.of [(1,.sl .no 1 (a1.map cI)),(2,.sl .no 1 (a2.map cI)),(3,.ep (Wheel.cells a0)),(7,.sl .no 1 (r1.map (cL 1 cI))),(8,.sl (.id (g+2+3+1)) 1 (v3.map (cL 3 SpotR_.cells))),(9,.sl (.id (g+2+3+1+1+1)) 1 (v4.map (cL 1 cI))),(10,.i v5),(11,.sl (.id rho) 3 (v18.map SpotR_.cells)),(12,.i v15)]) _ _
         replace hS:St (·<g) H0 [(rho,.row 202 v18.length),(g+2+3+1+1+1,.row 22 v4.length),(g+2+3+1,.row 199 v3.length)] H g8:=hS
         replace hM:zdb (zaX n (zay n a0 a1 a2 r1 m2) a0 a1 a2 r1 v3 v4 v5 m6) v15 v18=some r:=hM
         refine Rg 3 ?_
         refine Om (.i v15) ?_
         refine Oi (.i (w64 (v15+1))) ?_
         refine Oa (.i (w64 (v15+1))) ?_
         refine Ni ?_
         exact za1 (v18,w64 (v15+1)) (Nat.lt_succ_self _) (.k (.k (.k (.k (.k (.k (.k (.k (.k .nil))))))))) ⟨(hS.keep [true,true,true] rfl).up (by omega),hM⟩
        ·refine zao ?_
         refine Sq ?_
         refine Sq ?_
         refine Rg 8 ?_
         refine Om (.sl .no 1 (r1.map (cL 1 cI))) ?_
         refine Om (.i v5) ?_
         obtain ⟨x19,hx19,hM⟩:=zaf hM
         refine zaL (xs:=r1) (f:=(cL 1 cI)) (z:=v5) (u:=x19) (by decide) rfl rfl zd9 hx19 ?_
         refine Olp (.sl .no 1 (x19.map cI)) zaq zaE ?_
         refine Om (.i v15) ?_
         obtain ⟨x20,hx20,hM⟩:=zaf hM
         refine zaL (xs:=x19) (f:=cI) (z:=v15) (u:=x20) (by decide) rfl rfl zaw hx20 ?_
         refine Olp (.i x20) zah zas ?_
         refine Oi (.b (x20==0)) ?_
         refine Ni ?_
         refine Ws ?_
         rcases bft (x20==0) with hb21 | hb21
         ·replace hM:=ifT hM hb21
          refine Ct hb21 ?_
          refine za8 ?_
          refine zal ?_
          refine zar ?_
          exact zam v14 (.k (.k (.k (.k (.k (.k (.k (.k (.k .nil))))))))) ⟨(hS.keep [true,true,true] rfl).up (by omega),hM⟩
         ·replace hM:=ifF hM hb21
          refine Cf hb21 ?_
          refine zax ?_
          refine Ws ?_
          refine Sq ?_
          refine Rg 12 ?_
          refine Om (.sl (.id (g+2+3+1)) 1 (v3.map (cL 3 SpotR_.cells))) ?_
          refine Om (.sl .no 1 (a1.map cI)) ?_
          refine Om (.sl .no 1 (r1.map (cL 1 cI))) ?_
          refine Om (.i v5) ?_
          obtain ⟨x22,hx22,hM⟩:=zaf hM
          refine zaL (xs:=r1) (f:=(cL 1 cI)) (z:=v5) (u:=x22) (by decide) rfl rfl zd9 hx22 ?_
          refine Olp (.sl .no 1 (x22.map cI)) zaq zaE ?_
          refine Om (.i v15) ?_
          obtain ⟨r23,hr23,hM⟩:=zaf hM
          refine zau (bs:=[.sl .no 1 (x22.map cI),.i v15]) (by decide) rfl rfl ((zop hr23).le (.k (.k .nil))) ?_
          obtain ⟨r24,hr24,hM⟩:=zaf hM
          refine zau (bs:=[.sl .no 1 (a1.map cI),.sl .no 1 (r23.map cI)]) (by decide) rfl rfl ((znw hr24).le (.k (.k .nil))) ?_
          obtain ⟨x25,hx25,hM⟩:=zaf hM
          refine zaL (xs:=v3) (f:=(cL 3 SpotR_.cells)) (z:=r24) (u:=x25) (by decide) rfl rfl znq hx25 ?_
          refine Olp (.sl .no 3 (x25.map SpotR_.cells)) zsT zue ?_
          refine Oa (.sl .no 3 (x25.map SpotR_.cells)) ?_
          refine Ni ?_
          refine Ws ?_
          refine Sq ?_
          refine Rg 1 ?_
          refine Oa (.i 0) ?_
          refine Ni ?_
          refine Ws ?_
          refine zao ?_
          refine zbj (V:=(List SpotR_)×Int) (fun v=>[(1,.sl .no 1 (a1.map cI)),(2,.sl .no 1 (a2.map cI)),(3,.ep (Wheel.cells a0)),(7,.sl .no 1 (r1.map (cL 1 cI))),(8,.sl (.id (g+2+3+1)) 1 (v3.map (cL 3 SpotR_.cells))),(9,.sl (.id (g+2+3+1+1+1)) 1 (v4.map (cL 1 cI))),(10,.i v5),(11,.sl (.id rho) 3 (v.1.map SpotR_.cells)),(12,.i v15),(13,.sl .no 3 (x25.map SpotR_.cells)),(14,.i v.2)]) (fun v m9 H' g'=>St (·<g) H0 [(rho,.row 202 v.1.length),(g+2+3+1+1+1,.row 22 v4.length),(g+2+3+1,.row 199 v3.length)] H' g'/\zcF n (zaX n (zay n a0 a1 a2 r1 m2) a0 a1 a2 r1 v3 v4 v5 m6) a0 v15 x25 m9 v.1 v.2=some r) (n:=n) (v14,0) (.k (.k (.k (.k (.k (.k (.k (.k (.k (.k (.k .nil))))))))))) ⟨(hS.keep [true,true,true] rfl).up (by omega),hM⟩ ?_
          rintro ⟨v26,v27⟩ m9 H g9 ⟨hS,hM⟩
          obtain _ | m9:=m9
          ·exact nomatch (show none=some _ from hM)
          change wpA _ _ _ _ (Fr.of [(1,.sl .no 1 (a1.map cI)),(2,.sl .no 1 (a2.map cI)),(3,.ep (Wheel.cells a0)),(7,.sl .no 1 (r1.map (cL 1 cI))),(8,.sl (.id (g+2+3+1)) 1 (v3.map (cL 3 SpotR_.cells))),(9,.sl (.id (g+2+3+1+1+1)) 1 (v4.map (cL 1 cI))),(10,.i v5),(11,.sl (.id rho) 3 (v26.map SpotR_.cells)),(12,.i v15),(13,.sl .no 3 (x25.map SpotR_.cells)),(14,.i v27)]) _ _
          replace hS:St (·<g) H0 [(rho,.row 202 v26.length),(g+2+3+1+1+1,.row 22 v4.length),(g+2+3+1,.row 199 v3.length)] H g9:=hS
          replace hM:ze0 n (zaX n (zay n a0 a1 a2 r1 m2) a0 a1 a2 r1 v3 v4 v5 m6) a0 v15 x25 (zcF n (zaX n (zay n a0 a1 a2 r1 m2) a0 a1 a2 r1 v3 v4 v5 m6) a0 v15 x25 m9) v26 v27=some r:=hM
          refine Sq ?_
          refine Sq ?_
          refine Rg 4 ?_
          refine Om (.i v27) ?_
          refine Om (.sl .no 3 (x25.map SpotR_.cells)) ?_
          refine zbi (n:=x25.length) (by decide) rfl (List.length_map _) zjM ?_
          refine Oi (.b (decide (v27<(x25.length:Int)))) ?_
          refine Ni ?_
          refine Ws ?_
          rcases bft (decide (v27<(x25.length:Int))) with hb28 | hb28
          ·replace hM:=ifT hM hb28
           refine Ct hb28 ?_
           refine zax ?_
           refine Ws ?_
           refine Sq ?_
           refine zao ?_
           refine Sq ?_
           have hS0:=hS
           refine zcg (n:=14) rfl (by kernel_rfl) ?_
           refine Olg (.agg (Wheel.cells a0)) zbw ?_
           refine Om (.sl .no 3 (x25.map SpotR_.cells)) ?_
           refine Om (.i v27) ?_
           obtain ⟨x29,hx29,hM⟩:=zaf hM
           refine zaL (xs:=x25) (f:=SpotR_.cells) (z:=v27) (u:=x29) (by decide) rfl rfl zha hx29 ?_
           refine Of ((SpotR_.cells x29)) ziM ?_
           refine Olg (.agg (Stand.cells x29.stand)) zdm ?_
           refine Om (.i v15) ?_
           obtain ⟨r30,hr30,hM⟩:=zaf hM
           refine zau (bs:=[.agg (Wheel.cells a0),.agg (Stand.cells x29.stand),.i v15]) (by decide) rfl rfl ((zlQ hr30).le (.k (.k (.k .nil)))) ?_
           refine Om (.tup [.agg (Stand.cells r30.1),.b r30.2]) ?_
           refine Ox (.agg (Stand.cells r30.1)) ?_
           refine Ox (.b r30.2) ?_
           refine zbP hS (by decide) zcB (by omega) fun H hS=>?_
           refine za2 (v:=.agg (Stand.cells r30.1)) (ns:=(Stand.cells r30.1)) (L':=[(g9+4+11,.cells (Stand.cells r30.1)),(rho,.row 202 v26.length),(g+2+3+1+1+1,.row 22 v4.length),(g+2+3+1,.row 199 v3.length)]) 0 hS rfl rfl (.behind (by kernel_rfl)) rfl rfl zeD nlb rfl fun H hS=>?_
           refine Oa (.b r30.2) ?_
           refine Ni ?_
           refine zbd (L':=[(rho,.row 202 v26.length),(g+2+3+1+1+1,.row 22 v4.length),(g+2+3+1,.row 199 v3.length)]) 0 15 hS rfl rfl rfl fun H hS=>?_
           refine Ws ?_
           have hS0:=hS
           refine zcg (n:=21) rfl (by kernel_rfl) ?_
           refine Olg (.agg (Wheel.cells a0)) zbw ?_
           refine Om (.sl (.id rho) 3 (v26.map SpotR_.cells)) ?_
           refine Olg (.agg (Stand.cells r30.1)) zdm ?_
           refine Om (.sl .no 3 (x25.map SpotR_.cells)) ?_
           refine Om (.i v27) ?_
           obtain ⟨x31,hx31,hM⟩:=zaf hM
           refine zaL (xs:=x25) (f:=SpotR_.cells) (z:=v27) (u:=x31) (by decide) rfl rfl zha hx31 ?_
           refine Of ((SpotR_.cells x31)) ziN ?_
           refine Olp (.i x31.bought) zah zas ?_
           refine Of ((Stand.cells r30.1)) zb1 ?_
           refine Olp (.i r30.1.Credit) zah zas ?_
           refine Oi (.i (w64 (x31.bought+r30.1.Credit))) ?_
           refine Om (.sl .no 3 (x25.map SpotR_.cells)) ?_
           refine Om (.i v27) ?_
           obtain ⟨x32,hx32,hM⟩:=zaf hM
           refine zaL (xs:=x25) (f:=SpotR_.cells) (z:=v27) (u:=x32) (by decide) rfl rfl zha hx32 ?_
           refine Of ((SpotR_.cells x32)) ziM ?_
           refine Of ((SpotR_.cells x32)) zb1 ?_
           refine Olp (.i x32.stand.Credit) zah zas ?_
           refine Oi (.i (w64 ((w64 (x31.bought+r30.1.Credit))-x32.stand.Credit))) ?_
           refine zbQ (cs:=[.i r30.1.Place,.i r30.1.Credit,.i (w64 ((w64 (x31.bought+r30.1.Credit))-x32.stand.Credit))]) (by decide) zkj znr rfl ?_
           obtain ⟨r33,hr33,hM⟩:=zaf hM
           have hndr33:=hS.nd_at (ns:=[0]) (M:=[(rho,.row 202 v26.length)]) (M':=[(rho,.row 202 r33.length)]) (.cons rfl .nil) (by decide)
           refine zsr (bs:=[.agg (Wheel.cells a0),.sl (.id rho) 3 (v26.map SpotR_.cells),.agg [.i r30.1.Place,.i r30.1.Credit,.i (w64 ((w64 (x31.bought+r30.1.Credit))-x32.stand.Credit))]]) (M:=[(rho,.row 202 v26.length)]) (M':=[(rho,.row 202 r33.length)]) (L':=[(rho,.row 202 r33.length),(g+2+3+1+1+1,.row 22 v4.length),(g+2+3+1,.row 199 v3.length)]) [0] (.inr (by kernel_rfl)) hS (by decide) rfl rfl ((zjh (w0:=rho) hndr33 hr33).le (.k (.k (.k .nil)))) (.cons rfl .nil) rfl (by omega) fun H hS=>?_
           refine Oa (.sl (.id rho) 3 (r33.map SpotR_.cells)) ?_
           refine Ni ?_
           refine zag ?_
           refine Ws ?_
           refine Rg 3 ?_
           refine Om (.i v27) ?_
           refine Oi (.i (w64 (v27+1))) ?_
           refine Oa (.i (w64 (v27+1))) ?_
           refine Ni ?_
           exact za1 (r33,w64 (v27+1)) (Nat.lt_succ_self _) (.k (.k (.k (.k (.k (.k (.k (.k (.k (.k (.k .nil))))))))))) ⟨(hS.keep [true,true,true] rfl).up (by omega),hM⟩
          ·replace hM:=ifF hM hb28
           refine Cf hb28 ?_
           refine za8 ?_
           refine zal ?_
           refine zaj ?_
           refine zar ?_
           refine zag ?_
           exact zam v26 (.k (.k (.k (.k (.k (.k (.k (.k (.k .nil))))))))) ⟨(hS.keep [true,true,true] rfl).up (by omega),hM⟩
       ·replace hM:=ifF hM hb17
        refine Cf hb17 ?_
        refine za8 ?_
        refine zal ?_
        refine zaj ?_
        refine zar ?_
        exact zam v14 (.k (.k (.k (.k (.k (.k (.k (.k .nil)))))))) ⟨(hS.keep [true,true,true] rfl).up (by omega),hM⟩
      ·refine Rg 13 ?_
       refine Om (.i v15) ?_
       refine Om (.sl .no 1 (a1.map cI)) ?_
       refine zbi (n:=a1.length) (by decide) rfl (List.length_map _) zaM ?_
       refine Oi (.b (decide (v15<(a1.length:Int)))) ?_
       refine Om (.b (decide (v15<(a1.length:Int)))) ?_
       rcases bft (decide (v15<(a1.length:Int))) with hb34 | hb34
       ·replace hM:=ifT hM hb34
        refine Oy (want:=true) hb34 ?_
        refine Om (.sl .no 1 (r1.map (cL 1 cI))) ?_
        refine Oy (want:=true) hb34 ?_
        refine Om (.i v5) ?_
        refine Oy (want:=true) hb34 ?_
        obtain ⟨x35,hx35,hM⟩:=zaf hM
        refine zaL (xs:=r1) (f:=(cL 1 cI)) (z:=v5) (u:=x35) (by decide) rfl rfl zd9 hx35 ?_
        refine Oy (want:=true) hb34 ?_
        refine Olp (.sl .no 1 (x35.map cI)) zaq zaE ?_
        refine Oy (want:=true) hb34 ?_
        refine Om (.sl .no 1 (a2.map cI)) ?_
        refine Oy (want:=true) hb34 ?_
        obtain ⟨r36,hr36,hM⟩:=zaf hM
        refine zau (bs:=[.sl .no 1 (x35.map cI),.sl .no 1 (a2.map cI)]) (by decide) rfl rfl ((zmp hr36).le (.k (.k .nil))) ?_
        refine Oy (want:=true) hb34 ?_
        refine Oi (.b (decide (r36<=2))) ?_
        refine Pt (.b (decide (r36<=2))) hb34 ?_
        refine Ni ?_
        exact zam (decide (r36<=2)) (.k (.k (.k (.k (.k (.k (.k (.k (.k (.k .nil)))))))))) ⟨(hS.keep [true,true,true] rfl).up (by omega),hM⟩
       ·replace hM:=ifF hM hb34
        refine On (want:=true) hb34 ?_
        refine On (want:=true) hb34 ?_
        refine On (want:=true) hb34 ?_
        refine On (want:=true) hb34 ?_
        refine On (want:=true) hb34 ?_
        refine On (want:=true) hb34 ?_
        refine On (want:=true) hb34 ?_
        refine Pf (.b false) hb34 ?_
        refine Ni ?_
        exact zam false (.k (.k (.k (.k (.k (.k (.k (.k (.k (.k .nil)))))))))) ⟨(hS.keep [true,true,true] rfl).up (by omega),hM⟩
    ·refine Sq ?_
     refine Rg 6 ?_
     refine Om (.sl .no 1 (r1.map (cL 1 cI))) ?_
     refine Om (.i v5) ?_
     obtain ⟨x37,hx37,hM⟩:=zaf hM
     refine zaL (xs:=r1) (f:=(cL 1 cI)) (z:=v5) (u:=x37) (by decide) rfl rfl zd9 hx37 ?_
     refine Olp (.sl .no 1 (x37.map cI)) zaq zaE ?_
     obtain ⟨r38,hr38,hM⟩:=zaf hM
     refine zau (bs:=[.sl .no 1 (x37.map cI)]) (by decide) rfl rfl ((zhV hr38).le (.k .nil)) ?_
     refine Oi (.b (r38==0)) ?_
     refine Ni ?_
     refine Ws ?_
     rcases bft (r38==0) with hb39 | hb39
     ·replace hM:=ifT hM hb39
      refine Ct hb39 ?_
      refine Rg 4 ?_
      refine Olg (.agg (Wheel.cells a0)) zbw ?_
      refine zbQ (cs:=[.i 0,.i 0,.i 0]) (by decide) zkj znr rfl ?_
      obtain ⟨r40,hr40,hM⟩:=zaf hM
      refine zug (pre:=[.agg (Wheel.cells a0)]) (post:=[.agg [.i 0,.i 0,.i 0]]) (k:=3) (n:=r40.length) (e:=202) (v:=fun q=>.sl (.id q) 3 (r40.map SpotR_.cells)) (.inl rfl) hS (by decide) rfl rfl (by decide) (fun q=>zjh (w0:=q) (by simp) hr40) (by omega) fun H hS=>?_
      refine Oa (.sl (.id _) 3 (r40.map SpotR_.cells)) ?_
      refine Ni ?_
      exact zam (_,r40) (.k (.k (.k (.k (.k (.k (.k (.k .nil)))))))) ⟨(hS.keep [true,false,true,true] rfl).up (by omega),hM⟩
     ·replace hM:=ifF hM hb39
      refine Cf hb39 ?_
      refine zax ?_
      exact zam (g2+4+1,([]:List SpotR_)) (.k (.k (.k (.k (.k (.k (.k (.k .nil)))))))) ⟨(hS.keep [true,true,true] rfl).up (by omega),hM⟩
  ·replace hM:=ifF hM hb6
   refine Cf hb6 ?_
   refine za8 ?_
   refine zal ?_
   refine zaj ?_
   refine zar ?_
   exact zam v4 (.k .nil) ⟨(hS.keep [true,false] rfl).up (by omega),hM⟩
theorem zoq {n:Nat} {a0:Box} {r:Int×Int×Int×Int} (hM:zgK n a0=some r):zaD Try.prog 36 [.agg (Box.cells a0)] (.tup [.i r.1,.i r.2.1,.i r.2.2.1,.i r.2.2.2]):=by
 refine zak mixed Try.func36 rfl (by decide) Try.ntmps36 (by simp) ?pure fun H0 g hf=>?_
 case pure=>exact .tup _ (zab (.v _) (zab (.v _) (zab (.v _) (zab (.v _) zaG))))
 rw [zai]
 change wpA _ _ _ _ (Fr.of [(0,.agg (Box.cells a0))]) H0 g
 have hS:=St.start hf
 refine Sq ?_
 refine Rg 5 ?_
 refine zcI (v:=.agg (Box.cells a0)) (cs:=(Box.cells a0)) hS (by decide) rfl rfl (by omega) fun H hS=>?_
 refine Oa (.i 0) ?_
 refine Oa (.i 0) ?_
 refine Oa (.i 0) ?_
 refine Oa (.i 0) ?_
 refine Ni ?_
 refine zbd (L':=[]) 0 1 hS rfl rfl rfl fun H hS=>?_
 refine Ws ?_
 refine Sq ?_
 refine Sq ?_
 refine Rg 3 ?_
 refine Olg (.agg (Box.cells a0)) za5 ?_
 obtain ⟨r1,hr1,hM⟩:=zaf hM
 refine zau (bs:=[.agg (Box.cells a0)]) (by decide) rfl rfl ((zhU hr1).le (.k .nil)) ?_
 refine Oa (.i r1) ?_
 refine Ni ?_
 refine Ws ?_
 refine Sq ?_
 refine Rg 2 ?_
 refine Om (.i r1) ?_
 refine Oi (.b (r1 != 0)) ?_
 refine Ni ?_
 refine Ws ?_
 rcases bft (r1 != 0) with hb2 | hb2
 ·replace hM:=ifT hM hb2
  refine Ct hb2 ?_
  refine Sq ?_
  refine Rg 5 ?_
  refine Om (.i r1) ?_
  refine Oa (.i 0) ?_
  refine Oa (.i 0) ?_
  refine Oa (.i 0) ?_
  refine Oa (.i r1) ?_
  refine Ni ?_
  refine Ws ?_
  refine zaQ ?_
  refine zap ?_
  refine zaY (x:=.tup [.i 0,.i 0,.i 0,.i r1]) (f:=fun r=>.tup [.i r.1,.i r.2.1,.i r.2.2.1,.i r.2.2.2]) (.inr rfl) ?_ (.refl _) (Option.some.inj hM) hS
  exact (zfX (zae (x:=.i 0) rfl) (zae (x:=.i 0) rfl) (zae (x:=.i 0) rfl) (zae (x:=.i r1) rfl))
 ·replace hM:=ifF hM hb2
  refine Cf hb2 ?_
  refine zax ?_
  refine Ws ?_
  refine Sq ?_
  refine Rg 6 ?_
  refine Of ((Box.cells a0)) za7 ?_
  refine Olg (.agg (Wheel.cells a0.Wheel)) zbw ?_
  refine Of ((Box.cells a0)) zeq ?_
  refine Olp (.sl .no 1 (a0.Marked.map cI)) zaq zaE ?_
  obtain ⟨r3,hr3,hM⟩:=zaf hM
  refine zau (bs:=[.agg (Wheel.cells a0.Wheel),.sl .no 1 (a0.Marked.map cI)]) (by decide) rfl rfl ((zc2 hr3).le (.k (.k .nil))) ?_
  refine Oa (.i r3) ?_
  refine Ni ?_
  refine Ws ?_
  refine Sq ?_
  have hS0:=hS
  refine zcg (n:=17) rfl (by kernel_rfl) ?_
  refine Of ((Box.cells a0)) za7 ?_
  refine Olg (.agg (Wheel.cells a0.Wheel)) zbw ?_
  refine Of ((Box.cells a0)) zco ?_
  refine Olp (.sl .no 1 (a0.Found.map cI)) zaq zaE ?_
  obtain ⟨r4,hr4,hM⟩:=zaf hM
  refine zau (bs:=[.agg (Wheel.cells a0.Wheel),.sl .no 1 (a0.Found.map cI)]) (by decide) rfl rfl ((zc2 hr4).le (.k (.k .nil))) ?_
  refine Om (.i r3) ?_
  refine Oi (.i (w64 (r4-r3))) ?_
  refine Om (.i r3) ?_
  refine Of ((Box.cells a0)) za7 ?_
  refine Olg (.agg (Wheel.cells a0.Wheel)) zbw ?_
  refine Of ((Box.cells a0)) zdr ?_
  refine Olp (.sl .no 1 (a0.Slugs.map cI)) zaq zaE ?_
  obtain ⟨r5,hr5,hM⟩:=zaf hM
  refine zau (bs:=[.agg (Wheel.cells a0.Wheel),.sl .no 1 (a0.Slugs.map cI)]) (by decide) rfl rfl ((zc2 hr5).le (.k (.k .nil))) ?_
  refine Oa (.i (w64 (r4-r3))) ?_
  refine Oa (.i r3) ?_
  refine Oa (.i r5) ?_
  refine Oa (.i 0) ?_
  refine Ni ?_
  refine zeJ [(2,.i (w64 (r4-r3))),(3,.i r3),(4,.i r5),(5,.i 0)] (.k (.k (.k (.k .nil)))) ?_
  refine zaQ ?_
  refine zaY (x:=.tup [.i (w64 (r4-r3)),.i r3,.i r5,.i 0]) (f:=fun r=>.tup [.i r.1,.i r.2.1,.i r.2.2.1,.i r.2.2.2]) (.inr rfl) ?_ (.refl _) (Option.some.inj hM) hS
  exact (zfX (zae (x:=.i (w64 (r4-r3))) rfl) (zae (x:=.i r3) rfl) (zae (x:=.i r5) rfl) (zae (x:=.i 0) rfl))
theorem zor {n:Nat} {a0:Box} {a1:Box} {r:Bool} (hM:ziG n a0 a1=some r):zaD Try.prog 41 [.agg (Box.cells a0),.agg (Box.cells a1)] (.b r):=by
 refine zak mixed Try.func41 rfl (by decide) Try.ntmps41 (by simp) ?pure fun H0 g hf=>?_
 case pure=>exact .v _
 rw [zai]
 change wpA _ _ _ _ (Fr.of [(0,.agg (Box.cells a0)),(1,.agg (Box.cells a1))]) H0 g
 have hS:=St.start hf
 refine Sq ?_
 refine Rg 3 ?_
 refine zcI (v:=.agg (Box.cells a0)) (cs:=(Box.cells a0)) hS (by decide) rfl rfl (by omega) fun H hS=>?_
 refine zcI (v:=.agg (Box.cells a1)) (cs:=(Box.cells a1)) hS (by decide) rfl rfl (by omega) fun H hS=>?_
 refine Oa (.b false) ?_
 refine Ni ?_
 refine zbd (L':=[(g+1,.cells (Box.cells a1))]) 1 2 hS rfl rfl rfl fun H hS=>?_
 refine zbd (L':=[]) 0 3 hS rfl rfl rfl fun H hS=>?_
 refine Ws ?_
 refine zaW (J:=Bool) (fun j=>[(4,.b j)]) (fun j H' g'=>St (·<g) H0 [] H' g'/\zbZ j=some r) ?_ ?_
 ·rintro v1 H g1 ⟨hS,hM⟩
  change wpA _ _ _ _ (Fr.of [(4,.b v1)]) _ _
  replace hS:St (·<g) H0 [] H g1:=hS
  replace hM:zbZ v1=some r:=hM
  refine zaQ ?_
  refine zaY (x:=.b v1) (f:=fun r=>.b r) (.inr rfl) ?_ (.refl _) (Option.some.inj hM) hS
  exact (zaA (zae (x:=.b v1) rfl))
 ·refine Rg 61 ?_
  refine Of ((Box.cells a0)) za7 ?_
  refine Of ((Box.cells a0)) zc1 ?_
  refine Olp (.i a0.Wheel.Round) zah zas ?_
  refine Of ((Box.cells a1)) za7 ?_
  refine Of ((Box.cells a1)) zc1 ?_
  refine Olp (.i a1.Wheel.Round) zah zas ?_
  refine Oi (.b (a0.Wheel.Round==a1.Wheel.Round)) ?_
  refine Om (.b (a0.Wheel.Round==a1.Wheel.Round)) ?_
  rcases bft (a0.Wheel.Round==a1.Wheel.Round) with hb2 | hb2
  ·replace hM:=ifT hM hb2
   refine Oy (want:=true) hb2 ?_
   refine Of ((Box.cells a0)) za7 ?_
   refine Oy (want:=true) hb2 ?_
   refine Of ((Box.cells a0)) zfu ?_
   refine Oy (want:=true) hb2 ?_
   refine Olp (.sl .no 1 (a0.Wheel.Notches.map cI)) zaq zaE ?_
   refine Oy (want:=true) hb2 ?_
   refine Of ((Box.cells a1)) za7 ?_
   refine Oy (want:=true) hb2 ?_
   refine Of ((Box.cells a1)) zfu ?_
   refine Oy (want:=true) hb2 ?_
   refine Olp (.sl .no 1 (a1.Wheel.Notches.map cI)) zaq zaE ?_
   refine Oy (want:=true) hb2 ?_
   obtain ⟨r3,hr3,hM⟩:=zaf hM
   refine zau (bs:=[.sl .no 1 (a0.Wheel.Notches.map cI),.sl .no 1 (a1.Wheel.Notches.map cI)]) (by decide) rfl rfl ((zcR hr3).le (.k (.k .nil))) ?_
   refine Pt (.b r3) hb2 ?_
   refine Om (.b r3) ?_
   rcases bft r3 with hb4 | hb4
   ·replace hM:=ifT hM hb4
    refine Oy (want:=true) hb4 ?_
    refine Of ((Box.cells a0)) za7 ?_
    refine Oy (want:=true) hb4 ?_
    refine Of ((Box.cells a0)) zcC ?_
    refine Oy (want:=true) hb4 ?_
    refine Olp (.sl .no 1 (a0.Wheel.Coins.map cI)) zaq zaE ?_
    refine Oy (want:=true) hb4 ?_
    refine Of ((Box.cells a1)) za7 ?_
    refine Oy (want:=true) hb4 ?_
    refine Of ((Box.cells a1)) zcC ?_
    refine Oy (want:=true) hb4 ?_
    refine Olp (.sl .no 1 (a1.Wheel.Coins.map cI)) zaq zaE ?_
    refine Oy (want:=true) hb4 ?_
    obtain ⟨r5,hr5,hM⟩:=zaf hM
    refine zau (bs:=[.sl .no 1 (a0.Wheel.Coins.map cI),.sl .no 1 (a1.Wheel.Coins.map cI)]) (by decide) rfl rfl ((zcR hr5).le (.k (.k .nil))) ?_
    refine Pt (.b r5) hb4 ?_
    refine Om (.b r5) ?_
    rcases bft r5 with hb6 | hb6
    ·replace hM:=ifT hM hb6
     refine Oy (want:=true) hb6 ?_
     refine Of ((Box.cells a0)) zco ?_
     refine Oy (want:=true) hb6 ?_
     refine Olp (.sl .no 1 (a0.Found.map cI)) zaq zaE ?_
     refine Oy (want:=true) hb6 ?_
     refine Of ((Box.cells a1)) zco ?_
     refine Oy (want:=true) hb6 ?_
     refine Olp (.sl .no 1 (a1.Found.map cI)) zaq zaE ?_
     refine Oy (want:=true) hb6 ?_
     obtain ⟨r7,hr7,hM⟩:=zaf hM
     refine zau (bs:=[.sl .no 1 (a0.Found.map cI),.sl .no 1 (a1.Found.map cI)]) (by decide) rfl rfl ((zcR hr7).le (.k (.k .nil))) ?_
     refine Pt (.b r7) hb6 ?_
     refine Om (.b r7) ?_
     rcases bft r7 with hb8 | hb8
     ·replace hM:=ifT hM hb8
      refine Oy (want:=true) hb8 ?_
      refine Of ((Box.cells a0)) zeq ?_
      refine Oy (want:=true) hb8 ?_
      refine Olp (.sl .no 1 (a0.Marked.map cI)) zaq zaE ?_
      refine Oy (want:=true) hb8 ?_
      refine Of ((Box.cells a1)) zeq ?_
      refine Oy (want:=true) hb8 ?_
      refine Olp (.sl .no 1 (a1.Marked.map cI)) zaq zaE ?_
      refine Oy (want:=true) hb8 ?_
      obtain ⟨r9,hr9,hM⟩:=zaf hM
      refine zau (bs:=[.sl .no 1 (a0.Marked.map cI),.sl .no 1 (a1.Marked.map cI)]) (by decide) rfl rfl ((zcR hr9).le (.k (.k .nil))) ?_
      refine Pt (.b r9) hb8 ?_
      refine Om (.b r9) ?_
      rcases bft r9 with hb10 | hb10
      ·replace hM:=ifT hM hb10
       refine Oy (want:=true) hb10 ?_
       refine Of ((Box.cells a0)) zdr ?_
       refine Oy (want:=true) hb10 ?_
       refine Olp (.sl .no 1 (a0.Slugs.map cI)) zaq zaE ?_
       refine Oy (want:=true) hb10 ?_
       refine Of ((Box.cells a1)) zdr ?_
       refine Oy (want:=true) hb10 ?_
       refine Olp (.sl .no 1 (a1.Slugs.map cI)) zaq zaE ?_
       refine Oy (want:=true) hb10 ?_
       obtain ⟨r11,hr11,hM⟩:=zaf hM
       refine zau (bs:=[.sl .no 1 (a0.Slugs.map cI),.sl .no 1 (a1.Slugs.map cI)]) (by decide) rfl rfl ((zcR hr11).le (.k (.k .nil))) ?_
       refine Pt (.b r11) hb10 ?_
       refine Om (.b r11) ?_
       rcases bft r11 with hb12 | hb12
       ·replace hM:=ifT hM hb12
        refine Oy (want:=true) hb12 ?_
        refine Of ((Box.cells a0)) zfv ?_
        refine Oy (want:=true) hb12 ?_
        refine Olp (.i a0.Plays) zah zas ?_
        refine Oy (want:=true) hb12 ?_
        refine Of ((Box.cells a1)) zfv ?_
        refine Oy (want:=true) hb12 ?_
        refine Olp (.i a1.Plays) zah zas ?_
        refine Oy (want:=true) hb12 ?_
        refine Oi (.b (a0.Plays==a1.Plays)) ?_
        refine Pt (.b (a0.Plays==a1.Plays)) hb12 ?_
        refine Om (.b (a0.Plays==a1.Plays)) ?_
        rcases bft (a0.Plays==a1.Plays) with hb13 | hb13
        ·replace hM:=ifT hM hb13
         refine Oy (want:=true) hb13 ?_
         refine Of ((Box.cells a0)) zhv ?_
         refine Oy (want:=true) hb13 ?_
         refine Olp (.i a0.Skips) zah zas ?_
         refine Oy (want:=true) hb13 ?_
         refine Of ((Box.cells a1)) zhv ?_
         refine Oy (want:=true) hb13 ?_
         refine Olp (.i a1.Skips) zah zas ?_
         refine Oy (want:=true) hb13 ?_
         refine Oi (.b (a0.Skips==a1.Skips)) ?_
         refine Pt (.b (a0.Skips==a1.Skips)) hb13 ?_
         refine Oa (.b (a0.Skips==a1.Skips)) ?_
         refine Ni ?_
         exact zam (a0.Skips==a1.Skips) (.k .nil) ⟨(hS.keep [] rfl).up (by omega),hM⟩
        ·replace hM:=ifF hM hb13
         refine On (want:=true) hb13 ?_
         refine On (want:=true) hb13 ?_
         refine On (want:=true) hb13 ?_
         refine On (want:=true) hb13 ?_
         refine On (want:=true) hb13 ?_
         refine Pf (.b false) hb13 ?_
         refine Oa (.b false) ?_
         refine Ni ?_
         exact zam false (.k .nil) ⟨(hS.keep [] rfl).up (by omega),hM⟩
       ·replace hM:=ifF hM hb12
        refine On (want:=true) hb12 ?_
        refine On (want:=true) hb12 ?_
        refine On (want:=true) hb12 ?_
        refine On (want:=true) hb12 ?_
        refine On (want:=true) hb12 ?_
        refine Pf (.b false) hb12 ?_
        refine Om (.b false) ?_
        refine Og ?_
        refine Og ?_
        refine Og ?_
        refine Og ?_
        refine Og ?_
        refine zaT (v:=.b false) (e:=false) (by decide) rfl rfl rfl ?_
        refine Oa (.b false) ?_
        refine Ni ?_
        exact zam false (.k .nil) ⟨(hS.keep [] rfl).up (by omega),hM⟩
      ·replace hM:=ifF hM hb10
       refine On (want:=true) hb10 ?_
       refine On (want:=true) hb10 ?_
       refine On (want:=true) hb10 ?_
       refine On (want:=true) hb10 ?_
       refine On (want:=true) hb10 ?_
       refine Pf (.b false) hb10 ?_
       refine Om (.b false) ?_
       refine Og ?_
       refine Og ?_
       refine Og ?_
       refine Og ?_
       refine Og ?_
       refine zaT (v:=.b false) (e:=false) (by decide) rfl rfl rfl ?_
       refine Om (.b false) ?_
       refine Og ?_
       refine Og ?_
       refine Og ?_
       refine Og ?_
       refine Og ?_
       refine zaT (v:=.b false) (e:=false) (by decide) rfl rfl rfl ?_
       refine Oa (.b false) ?_
       refine Ni ?_
       exact zam false (.k .nil) ⟨(hS.keep [] rfl).up (by omega),hM⟩
     ·replace hM:=ifF hM hb8
      refine On (want:=true) hb8 ?_
      refine On (want:=true) hb8 ?_
      refine On (want:=true) hb8 ?_
      refine On (want:=true) hb8 ?_
      refine On (want:=true) hb8 ?_
      refine Pf (.b false) hb8 ?_
      refine Om (.b false) ?_
      refine Og ?_
      refine Og ?_
      refine Og ?_
      refine Og ?_
      refine Og ?_
      refine zaT (v:=.b false) (e:=false) (by decide) rfl rfl rfl ?_
      refine Om (.b false) ?_
      refine Og ?_
      refine Og ?_
      refine Og ?_
      refine Og ?_
      refine Og ?_
      refine zaT (v:=.b false) (e:=false) (by decide) rfl rfl rfl ?_
      refine Om (.b false) ?_
      refine Og ?_
      refine Og ?_
      refine Og ?_
      refine Og ?_
      refine Og ?_
      refine zaT (v:=.b false) (e:=false) (by decide) rfl rfl rfl ?_
      refine Oa (.b false) ?_
      refine Ni ?_
      exact zam false (.k .nil) ⟨(hS.keep [] rfl).up (by omega),hM⟩
    ·replace hM:=ifF hM hb6
     refine On (want:=true) hb6 ?_
     refine On (want:=true) hb6 ?_
     refine On (want:=true) hb6 ?_
     refine On (want:=true) hb6 ?_
     refine On (want:=true) hb6 ?_
     refine Pf (.b false) hb6 ?_
     refine Om (.b false) ?_
     refine Og ?_
     refine Og ?_
     refine Og ?_
     refine Og ?_
     refine Og ?_
     refine zaT (v:=.b false) (e:=false) (by decide) rfl rfl rfl ?_
     refine Om (.b false) ?_
     refine Og ?_
     refine Og ?_
     refine Og ?_
     refine Og ?_
     refine Og ?_
     refine zaT (v:=.b false) (e:=false) (by decide) rfl rfl rfl ?_
     refine Om (.b false) ?_
     refine Og ?_
     refine Og ?_
     refine Og ?_
     refine Og ?_
     refine Og ?_
     refine zaT (v:=.b false) (e:=false) (by decide) rfl rfl rfl ?_
     refine Om (.b false) ?_
     refine Og ?_
     refine Og ?_
     refine Og ?_
     refine Og ?_
     refine Og ?_
     refine zaT (v:=.b false) (e:=false) (by decide) rfl rfl rfl ?_
     refine Oa (.b false) ?_
     refine Ni ?_
     exact zam false (.k .nil) ⟨(hS.keep [] rfl).up (by omega),hM⟩
   ·replace hM:=ifF hM hb4
    refine On (want:=true) hb4 ?_
    refine On (want:=true) hb4 ?_
    refine On (want:=true) hb4 ?_
    refine On (want:=true) hb4 ?_
    refine On (want:=true) hb4 ?_
    refine On (want:=true) hb4 ?_
    refine On (want:=true) hb4 ?_
    refine Pf (.b false) hb4 ?_
    refine Om (.b false) ?_
    refine Og ?_
    refine Og ?_
    refine Og ?_
    refine Og ?_
    refine Og ?_
    refine zaT (v:=.b false) (e:=false) (by decide) rfl rfl rfl ?_
    refine Om (.b false) ?_
    refine Og ?_
    refine Og ?_
    refine Og ?_
    refine Og ?_
    refine Og ?_
    refine zaT (v:=.b false) (e:=false) (by decide) rfl rfl rfl ?_
    refine Om (.b false) ?_
    refine Og ?_
    refine Og ?_
    refine Og ?_
    refine Og ?_
    refine Og ?_
    refine zaT (v:=.b false) (e:=false) (by decide) rfl rfl rfl ?_
    refine Om (.b false) ?_
    refine Og ?_
    refine Og ?_
    refine Og ?_
    refine Og ?_
    refine Og ?_
    refine zaT (v:=.b false) (e:=false) (by decide) rfl rfl rfl ?_
    refine Om (.b false) ?_
    refine Og ?_
    refine Og ?_
    refine Og ?_
    refine Og ?_
    refine Og ?_
    refine zaT (v:=.b false) (e:=false) (by decide) rfl rfl rfl ?_
    refine Oa (.b false) ?_
    refine Ni ?_
    exact zam false (.k .nil) ⟨(hS.keep [] rfl).up (by omega),hM⟩
  ·replace hM:=ifF hM hb2
   refine On (want:=true) hb2 ?_
   refine On (want:=true) hb2 ?_
   refine On (want:=true) hb2 ?_
   refine On (want:=true) hb2 ?_
   refine On (want:=true) hb2 ?_
   refine On (want:=true) hb2 ?_
   refine On (want:=true) hb2 ?_
   refine Pf (.b false) hb2 ?_
   refine Om (.b false) ?_
   refine Og ?_
   refine Og ?_
   refine Og ?_
   refine Og ?_
   refine Og ?_
   refine Og ?_
   refine Og ?_
   refine zaT (v:=.b false) (e:=false) (by decide) rfl rfl rfl ?_
   refine Om (.b false) ?_
   refine Og ?_
   refine Og ?_
   refine Og ?_
   refine Og ?_
   refine Og ?_
   refine zaT (v:=.b false) (e:=false) (by decide) rfl rfl rfl ?_
   refine Om (.b false) ?_
   refine Og ?_
   refine Og ?_
   refine Og ?_
   refine Og ?_
   refine Og ?_
   refine zaT (v:=.b false) (e:=false) (by decide) rfl rfl rfl ?_
   refine Om (.b false) ?_
   refine Og ?_
   refine Og ?_
   refine Og ?_
   refine Og ?_
   refine Og ?_
   refine zaT (v:=.b false) (e:=false) (by decide) rfl rfl rfl ?_
   refine Om (.b false) ?_
   refine Og ?_
   refine Og ?_
   refine Og ?_
   refine Og ?_
   refine Og ?_
   refine zaT (v:=.b false) (e:=false) (by decide) rfl rfl rfl ?_
   refine Om (.b false) ?_
   refine Og ?_
   refine Og ?_
   refine Og ?_
   refine Og ?_
   refine Og ?_
   refine zaT (v:=.b false) (e:=false) (by decide) rfl rfl rfl ?_
   refine Oa (.b false) ?_
   refine Ni ?_
   exact zam false (.k .nil) ⟨(hS.keep [] rfl).up (by omega),hM⟩
end Go.Proofs.Ytenogpmlhpcibaa
