/-
  The code returns what the functions say (printed by gen.py).
  Conditions: none.
-/
import Derived.Test.YtenogpmlhpcibaaWkTopExplained2
import Derived.Test.YtenogpmlhpcibaaSh
import Derived.Test.YtenogpmlhpcibaaKs
import Derived.Test.YtenogpmlhpcibaaEn
set_option linter.all false
namespace Go.Proofs.Ytenogpmlhpcibaa
open Go Go.AM Go.Law
set_option linter.unusedVariables false
set_option maxRecDepth 4000
set_option maxHeartbeats 4000000
theorem zh2 {n:Nat} {a0:Box} {r:Int×Int} (hM:zcM n a0=some r):zaR Try.prog 39 [.agg (Box.cells a0)] (.tup [.i r.1,.i r.2]):=by
 refine zau mixed Try.func39 rfl (by decide) Try.ntmps39 (by simp) ?pure fun H0 g hf=>?_
 case pure=>exact .tup _ (zac (.v _) (zac (.v _) zaQ))
 rw [zam]
 change wpA _ _ _ _ (Fr.of [(0,.agg (Box.cells a0))]) H0 g
 have hS:=St.start hf
 refine Sq ?_
 refine Rg 3 ?_
 refine zcE (v:=.agg (Box.cells a0)) (cs:=(Box.cells a0)) hS (by decide) rfl rfl (by omega) fun H hS=>?_
 refine Oa (.i 0) ?_
 refine Oa (.i 0) ?_
 refine Ni ?_
 refine za6 (L':=[]) 0 1 hS rfl rfl rfl fun H hS=>?_
 refine Ws ?_
 refine Sq ?_
 refine Rg 7 ?_
 refine Olg (.agg (Box.cells a0)) zcw ?_
 obtain ⟨r1,hr1,hM⟩:=zak hM
 refine zaK (bs:=[.agg (Box.cells a0)]) (by decide) rfl rfl ((zgZ hr1).le (.k .nil)) ?_
 refine Om (.tup [pA Box_.cells r1.1,.i r1.2]) ?_
 refine Ox (pA Box_.cells r1.1) ?_
 refine Ox (.i r1.2) ?_
 refine Oa (pA Box_.cells r1.1) ?_
 refine Oa (.i r1.2) ?_
 refine Ni ?_
 refine Ws ?_
 refine Sq ?_
 refine Sq ?_
 refine Rg 2 ?_
 refine Om (.i r1.2) ?_
 refine Oi (.b (r1.2 != 0)) ?_
 refine Ni ?_
 refine Ws ?_
 rcases bft (r1.2 != 0) with hb2 | hb2
 ·replace hM:=ifT hM hb2
  refine Ct hb2 ?_
  refine Sq ?_
  refine Rg 3 ?_
  refine Om (.i r1.2) ?_
  refine Oa (.i 0) ?_
  refine Oa (.i r1.2) ?_
  refine Ni ?_
  refine Ws ?_
  refine za0 ?_
  refine zan ?_
  refine za8 (x:=.tup [.i 0,.i r1.2]) (f:=fun r=>.tup [.i r.1,.i r.2]) (.inr rfl) ?_ (.refl _) (Option.some.inj hM) hS
  exact (zcy (zaf (x:=.i 0) rfl) (zaf (x:=.i r1.2) rfl))
 ·replace hM:=ifF hM hb2
  refine Cf hb2 ?_
  refine zaD ?_
  refine Ws ?_
  refine Sq ?_
  have hS0:=hS
  refine zcJ (n:=9) rfl (by kernel_rfl) ?_
  refine Of ((Box.cells a0)) zfg ?_
  refine Olp (.i a0.Plays) zag zas ?_
  refine Om (pA Box_.cells r1.1) ?_
  obtain ⟨r3,hr3,hM⟩:=zak hM
  refine zaK (bs:=[pA Box_.cells r1.1]) (by decide) rfl rfl ((zg9 hr3).le (.k .nil)) ?_
  obtain ⟨r4,hr4,hM⟩:=zak hM
  refine zaK (bs:=[.sl .no 1 (r3.map cI)]) (by decide) rfl rfl ((zkH hr4).le (.k .nil)) ?_
  refine Oi (.i (w64 (a0.Plays-r4))) ?_
  refine zvQ (v:=.i (max 0 (w64 (a0.Plays-r4)))) (by decide) rfl ?_
  refine Oa (.i (max 0 (w64 (a0.Plays-r4)))) ?_
  refine Oa (.i 0) ?_
  refine Ni ?_
  refine zgn [(2,.i (max 0 (w64 (a0.Plays-r4)))),(3,.i 0)] (.k (.k .nil)) ?_
  refine za0 ?_
  refine za8 (x:=.tup [.i (max 0 (w64 (a0.Plays-r4))),.i 0]) (f:=fun r=>.tup [.i r.1,.i r.2]) (.inr rfl) ?_ (.refl _) (Option.some.inj hM) hS
  exact (zcy (zaf (x:=.i (max 0 (w64 (a0.Plays-r4)))) rfl) (zaf (x:=.i 0) rfl))
theorem zor {a0:Wheel} {r:Wheel} (hM:zic a0=some r):zaR Try.prog 59 [.agg (Wheel.cells a0)] (.agg [.i r.Round,.sl .no 1 (r.Notches.map cI),.sl .no 1 (r.Coins.map cI)]):=by
 refine zau mixed Try.func59 rfl (by decide) Try.ntmps59 (by simp) ?pure fun H0 g hf=>?_
 case pure=>exact .agg _ (zac (.v _) (zac (.sl _ _ (zaL (fun x=>(zac (.v _) zaQ)))) (zac (.sl _ _ (zaL (fun x=>(zac (.v _) zaQ)))) zaQ)))
 rw [zam]
 change wpA _ _ _ _ (Fr.of [(0,.agg (Wheel.cells a0))]) H0 g
 have hS:=St.start hf
 refine Sq ?_
 refine Rg 2 ?_
 refine zcE (v:=.agg (Wheel.cells a0)) (cs:=(Wheel.cells a0)) hS (by decide) rfl rfl (by omega) fun H hS=>?_
 refine zba hS (by decide) zji (by omega) fun H hS=>?_
 refine Ni ?_
 refine za6 (L':=[(g+1,.cells [.i 0,.sl .nil 0 [],.sl .nil 0 []])]) 1 1 hS rfl rfl rfl fun H hS=>?_
 refine Ws ?_
 refine Sq ?_
 have hS0:=hS
 refine zcJ (n:=12) rfl (by kernel_rfl) ?_
 refine Of ((Wheel.cells a0)) zen ?_
 refine Olp (.i a0.Round) zag zas ?_
 refine zaZ (es:=[]) hS (by decide) zaJ zbT rfl zbJ rfl (by decide) (by omega) fun H hS=>?_
 refine Of ((Wheel.cells a0)) zgw ?_
 refine Olp (.sl .no 1 (a0.Notches.map cI)) zaC zaW ?_
 obtain ⟨l1,hl1,hM⟩:=zak hM
 refine zes (xs:=([]:List Int)) (ys:=a0.Notches) (zs:=l1) (f:=cI) (L':=[(g+2+2,.row 3 l1.length),(g+1,.cells [.i 0,.sl .nil 0 [],.sl .nil 0 []])]) 0 hS (by decide) rfl rfl rfl rfl (.behind (by kernel_rfl)) zaJ zbT zbJ hl1 rfl fun H hS=>?_
 refine zaZ (es:=[]) hS (by decide) zaJ zbT rfl zbJ rfl (by decide) (by omega) fun H hS=>?_
 refine Of ((Wheel.cells a0)) zb8 ?_
 refine Olp (.sl .no 1 (a0.Coins.map cI)) zaC zaW ?_
 obtain ⟨l2,hl2,hM⟩:=zak hM
 refine zes (xs:=([]:List Int)) (ys:=a0.Coins) (zs:=l2) (f:=cI) (L':=[(g+2+6,.row 3 l2.length),(g+2+2,.row 3 l1.length),(g+1,.cells [.i 0,.sl .nil 0 [],.sl .nil 0 []])]) 0 hS (by decide) rfl rfl rfl rfl (.behind (by kernel_rfl)) zaJ zbT zbJ hl2 rfl fun H hS=>?_
 refine zbE (cs:=[.i a0.Round,.sl (.id (g+2+2)) 1 (l1.map cI),.sl (.id (g+2+6)) 1 (l2.map cI)]) (by decide) zji ztd rfl ?_
 refine zaE (v:=.agg [.i a0.Round,.sl (.id (g+2+2)) 1 (l1.map cI),.sl (.id (g+2+6)) 1 (l2.map cI)]) (ns:=[.i a0.Round,.sl (.id (g+2+2)) 1 (l1.map cI),.sl (.id (g+2+6)) 1 (l2.map cI)]) (L':=[(g+2+6,.row 3 l2.length),(g+2+2,.row 3 l1.length),(g+1,.cells [.i a0.Round,.sl (.id (g+2+2)) 1 (l1.map cI),.sl (.id (g+2+6)) 1 (l2.map cI)])]) 2 hS rfl rfl (.st hS0 0 rfl (by omega)) rfl rfl znl nlb rfl fun H hS=>?_
 refine Ni ?_
 refine zgn [(2,.ptr (g+1) 0)] (.k .nil) ?_
 refine za0 ?_
 refine za8 (x:=.agg [.i a0.Round,.sl (.id (g+2+2)) 1 (l1.map cI),.sl (.id (g+2+6)) 1 (l2.map cI)]) (f:=fun r=>.agg [.i r.Round,.sl .no 1 (r.Notches.map cI),.sl .no 1 (r.Coins.map cI)]) (.inr rfl) ?_ (.aggL (.k (.cons (.sl _ _ _) (.cons (.sl _ _ _) .nil)))) (Option.some.inj hM) hS
 exact (zaH (zd3 (x:=.agg [.i a0.Round,.sl (.id (g+2+2)) 1 (l1.map cI),.sl (.id (g+2+6)) 1 (l2.map cI)]) 2 hS rfl rfl (pg zbS)))
theorem zos {a0:Box} {r:Box} (hM:zid a0=some r):zaR Try.prog 17 [.agg (Box.cells a0)] (.agg [.i r.Wheel.Round,.sl .no 1 (r.Wheel.Notches.map cI),.sl .no 1 (r.Wheel.Coins.map cI),.sl .no 1 (r.Found.map cI),.sl .no 1 (r.Marked.map cI),.sl .no 1 (r.Slugs.map cI),.i r.Plays,.i r.Skips]):=by
 refine zau mixed Try.func17 rfl (by decide) Try.ntmps17 (by simp) ?pure fun H0 g hf=>?_
 case pure=>exact .agg _ (zac (.v _) (zac (.sl _ _ (zaL (fun x=>(zac (.v _) zaQ)))) (zac (.sl _ _ (zaL (fun x=>(zac (.v _) zaQ)))) (zac (.sl _ _ (zaL (fun x=>(zac (.v _) zaQ)))) (zac (.sl _ _ (zaL (fun x=>(zac (.v _) zaQ)))) (zac (.sl _ _ (zaL (fun x=>(zac (.v _) zaQ)))) (zac (.v _) (zac (.v _) zaQ))))))))
 rw [zam]
 change wpA _ _ _ _ (Fr.of [(0,.agg (Box.cells a0))]) H0 g
 have hS:=St.start hf
 refine Sq ?_
 refine Rg 2 ?_
 refine zcE (v:=.agg (Box.cells a0)) (cs:=(Box.cells a0)) hS (by decide) rfl rfl (by omega) fun H hS=>?_
 refine zba hS (by decide) zjj (by omega) fun H hS=>?_
 refine Ni ?_
 refine za6 (L':=[(g+1,.cells [.i 0,.sl .nil 0 [],.sl .nil 0 [],.sl .nil 0 [],.sl .nil 0 [],.sl .nil 0 [],.i 0,.i 0])]) 1 1 hS rfl rfl rfl fun H hS=>?_
 refine Ws ?_
 refine Sq ?_
 refine Rg 3 ?_
 refine Olg (.agg (Box.cells a0)) zcw ?_
 refine zba hS (by decide) zjj (by omega) fun H hS=>?_
 refine zaE (v:=.agg (Box.cells a0)) (ns:=(Box.cells a0)) (L':=[(g+2+1,.cells (Box.cells a0)),(g+1,.cells [.i 0,.sl .nil 0 [],.sl .nil 0 [],.sl .nil 0 [],.sl .nil 0 [],.sl .nil 0 [],.i 0,.i 0])]) 0 hS rfl rfl .no rfl rfl znm nlb rfl fun H hS=>?_
 refine Ni ?_
 refine Ws ?_
 refine Sq ?_
 refine Rg 5 ?_
 refine Of ((Box.cells a0)) zb9 ?_
 refine Olg (.agg (Wheel.cells a0.Wheel)) zbS ?_
 obtain ⟨r1,hr1,hM⟩:=zak hM
 refine zaK (bs:=[.agg (Wheel.cells a0.Wheel)]) (by decide) rfl rfl ((zor hr1).le (.k .nil)) ?_
 refine zao (by decide) zb9 rfl ?_
 refine zaE (v:=.agg (Wheel.cells r1)) (ns:=(Wheel.cells r1)) (L':=[(g+2+1,.cells [.i r1.Round,.sl .no 1 (r1.Notches.map cI),.sl .no 1 (r1.Coins.map cI),.sl .no 1 (a0.Found.map cI),.sl .no 1 (a0.Marked.map cI),.sl .no 1 (a0.Slugs.map cI),.i a0.Plays,.i a0.Skips]),(g+1,.cells [.i 0,.sl .nil 0 [],.sl .nil 0 [],.sl .nil 0 [],.sl .nil 0 [],.sl .nil 0 [],.i 0,.i 0])]) 0 hS rfl rfl .no rfl rfl znl nlb rfl fun H hS=>?_
 refine Ni ?_
 refine Ws ?_
 refine Sq ?_
 have hS0:=hS
 refine zcJ (n:=18) rfl (by kernel_rfl) ?_
 refine zaZ (es:=[]) hS (by decide) zaJ zbT rfl zbJ rfl (by decide) (by omega) fun H hS=>?_
 refine Of ((Box.cells a0)) zdu ?_
 refine Olp (.sl .no 1 (a0.Found.map cI)) zaC zaW ?_
 obtain ⟨l2,hl2,hM⟩:=zak hM
 refine zes (xs:=([]:List Int)) (ys:=a0.Found) (zs:=l2) (f:=cI) (L':=[(g+2+3+5+0,.row 3 l2.length),(g+2+1,.cells [.i r1.Round,.sl .no 1 (r1.Notches.map cI),.sl .no 1 (r1.Coins.map cI),.sl .no 1 (a0.Found.map cI),.sl .no 1 (a0.Marked.map cI),.sl .no 1 (a0.Slugs.map cI),.i a0.Plays,.i a0.Skips]),(g+1,.cells [.i 0,.sl .nil 0 [],.sl .nil 0 [],.sl .nil 0 [],.sl .nil 0 [],.sl .nil 0 [],.i 0,.i 0])]) 0 hS (by decide) rfl rfl rfl rfl (.behind (by kernel_rfl)) zaJ zbT zbJ hl2 rfl fun H hS=>?_
 refine zaZ (es:=[]) hS (by decide) zaJ zbT rfl zbJ rfl (by decide) (by omega) fun H hS=>?_
 refine Of ((Box.cells a0)) zgx ?_
 refine Olp (.sl .no 1 (a0.Marked.map cI)) zaC zaW ?_
 obtain ⟨l3,hl3,hM⟩:=zak hM
 refine zes (xs:=([]:List Int)) (ys:=a0.Marked) (zs:=l3) (f:=cI) (L':=[(g+2+3+5+4,.row 3 l3.length),(g+2+3+5+0,.row 3 l2.length),(g+2+1,.cells [.i r1.Round,.sl .no 1 (r1.Notches.map cI),.sl .no 1 (r1.Coins.map cI),.sl .no 1 (a0.Found.map cI),.sl .no 1 (a0.Marked.map cI),.sl .no 1 (a0.Slugs.map cI),.i a0.Plays,.i a0.Skips]),(g+1,.cells [.i 0,.sl .nil 0 [],.sl .nil 0 [],.sl .nil 0 [],.sl .nil 0 [],.sl .nil 0 [],.i 0,.i 0])]) 0 hS (by decide) rfl rfl rfl rfl (.behind (by kernel_rfl)) zaJ zbT zbJ hl3 rfl fun H hS=>?_
 refine zaZ (es:=[]) hS (by decide) zaJ zbT rfl zbJ rfl (by decide) (by omega) fun H hS=>?_
 refine Of ((Box.cells a0)) zff ?_
 refine Olp (.sl .no 1 (a0.Slugs.map cI)) zaC zaW ?_
 obtain ⟨l4,hl4,hM⟩:=zak hM
 refine zes (xs:=([]:List Int)) (ys:=a0.Slugs) (zs:=l4) (f:=cI) (L':=[(g+2+3+5+8,.row 3 l4.length),(g+2+3+5+4,.row 3 l3.length),(g+2+3+5+0,.row 3 l2.length),(g+2+1,.cells [.i r1.Round,.sl .no 1 (r1.Notches.map cI),.sl .no 1 (r1.Coins.map cI),.sl .no 1 (a0.Found.map cI),.sl .no 1 (a0.Marked.map cI),.sl .no 1 (a0.Slugs.map cI),.i a0.Plays,.i a0.Skips]),(g+1,.cells [.i 0,.sl .nil 0 [],.sl .nil 0 [],.sl .nil 0 [],.sl .nil 0 [],.sl .nil 0 [],.i 0,.i 0])]) 0 hS (by decide) rfl rfl rfl rfl (.behind (by kernel_rfl)) zaJ zbT zbJ hl4 rfl fun H hS=>?_
 refine zao (by decide) zdu rfl ?_
 refine zaE (v:=.sl (.id (g+2+3+5+0)) 1 (l2.map cI)) (ns:=[.sl (.id (g+2+3+5+0)) 1 (l2.map cI)]) (L':=[(g+2+3+5+8,.row 3 l4.length),(g+2+3+5+4,.row 3 l3.length),(g+2+3+5+0,.row 3 l2.length),(g+2+1,.cells [.i r1.Round,.sl .no 1 (r1.Notches.map cI),.sl .no 1 (r1.Coins.map cI),.sl (.id (g+2+3+5+0)) 1 (l2.map cI),.sl .no 1 (a0.Marked.map cI),.sl .no 1 (a0.Slugs.map cI),.i a0.Plays,.i a0.Skips]),(g+1,.cells [.i 0,.sl .nil 0 [],.sl .nil 0 [],.sl .nil 0 [],.sl .nil 0 [],.sl .nil 0 [],.i 0,.i 0])]) 3 hS rfl rfl (.st hS0 0 rfl (by omega)) rfl rfl znk nlb rfl fun H hS=>?_
 refine zao (by decide) zgx rfl ?_
 refine zaE (v:=.sl (.id (g+2+3+5+4)) 1 (l3.map cI)) (ns:=[.sl (.id (g+2+3+5+4)) 1 (l3.map cI)]) (L':=[(g+2+3+5+8,.row 3 l4.length),(g+2+3+5+4,.row 3 l3.length),(g+2+3+5+0,.row 3 l2.length),(g+2+1,.cells [.i r1.Round,.sl .no 1 (r1.Notches.map cI),.sl .no 1 (r1.Coins.map cI),.sl (.id (g+2+3+5+0)) 1 (l2.map cI),.sl (.id (g+2+3+5+4)) 1 (l3.map cI),.sl .no 1 (a0.Slugs.map cI),.i a0.Plays,.i a0.Skips]),(g+1,.cells [.i 0,.sl .nil 0 [],.sl .nil 0 [],.sl .nil 0 [],.sl .nil 0 [],.sl .nil 0 [],.i 0,.i 0])]) 3 hS rfl rfl (.st hS0 0 rfl (by omega)) rfl rfl znk nlb rfl fun H hS=>?_
 refine zao (by decide) zff rfl ?_
 refine zaE (v:=.sl (.id (g+2+3+5+8)) 1 (l4.map cI)) (ns:=[.sl (.id (g+2+3+5+8)) 1 (l4.map cI)]) (L':=[(g+2+3+5+8,.row 3 l4.length),(g+2+3+5+4,.row 3 l3.length),(g+2+3+5+0,.row 3 l2.length),(g+2+1,.cells [.i r1.Round,.sl .no 1 (r1.Notches.map cI),.sl .no 1 (r1.Coins.map cI),.sl (.id (g+2+3+5+0)) 1 (l2.map cI),.sl (.id (g+2+3+5+4)) 1 (l3.map cI),.sl (.id (g+2+3+5+8)) 1 (l4.map cI),.i a0.Plays,.i a0.Skips]),(g+1,.cells [.i 0,.sl .nil 0 [],.sl .nil 0 [],.sl .nil 0 [],.sl .nil 0 [],.sl .nil 0 [],.i 0,.i 0])]) 3 hS rfl rfl (.st hS0 0 rfl (by omega)) rfl rfl znk nlb rfl fun H hS=>?_
 refine Ni ?_
 refine Ws ?_
 refine Sq ?_
 refine Rg 2 ?_
 refine zaO (v:=.agg [.i r1.Round,.sl .no 1 (r1.Notches.map cI),.sl .no 1 (r1.Coins.map cI),.sl (.id (g+2+3+5+0)) 1 (l2.map cI),.sl (.id (g+2+3+5+4)) 1 (l3.map cI),.sl (.id (g+2+3+5+8)) 1 (l4.map cI),.i a0.Plays,.i a0.Skips]) 3 hS (by decide) rfl rfl .no (pg zcw) ?_
 refine zaE (v:=.agg [.i r1.Round,.sl .no 1 (r1.Notches.map cI),.sl .no 1 (r1.Coins.map cI),.sl (.id (g+2+3+5+0)) 1 (l2.map cI),.sl (.id (g+2+3+5+4)) 1 (l3.map cI),.sl (.id (g+2+3+5+8)) 1 (l4.map cI),.i a0.Plays,.i a0.Skips]) (ns:=[.i r1.Round,.sl .no 1 (r1.Notches.map cI),.sl .no 1 (r1.Coins.map cI),.sl (.id (g+2+3+5+0)) 1 (l2.map cI),.sl (.id (g+2+3+5+4)) 1 (l3.map cI),.sl (.id (g+2+3+5+8)) 1 (l4.map cI),.i a0.Plays,.i a0.Skips]) (L':=[(g+2+3+5+8,.row 3 l4.length),(g+2+3+5+4,.row 3 l3.length),(g+2+3+5+0,.row 3 l2.length),(g+2+1,.cells [.i r1.Round,.sl .no 1 (r1.Notches.map cI),.sl .no 1 (r1.Coins.map cI),.sl (.id (g+2+3+5+0)) 1 (l2.map cI),.sl (.id (g+2+3+5+4)) 1 (l3.map cI),.sl (.id (g+2+3+5+8)) 1 (l4.map cI),.i a0.Plays,.i a0.Skips]),(g+1,.cells [.i r1.Round,.sl .no 1 (r1.Notches.map cI),.sl .no 1 (r1.Coins.map cI),.sl (.id (g+2+3+5+0)) 1 (l2.map cI),.sl (.id (g+2+3+5+4)) 1 (l3.map cI),.sl (.id (g+2+3+5+8)) 1 (l4.map cI),.i a0.Plays,.i a0.Skips])]) 4 hS rfl rfl .no rfl rfl znm nlb rfl fun H hS=>?_
 refine Ni ?_
 replace hS:=hS.keep (L':=[(g+2+3+5+8,.row 3 l4.length),(g+2+3+5+4,.row 3 l3.length),(g+2+3+5+0,.row 3 l2.length),(g+1,.cells [.i r1.Round,.sl .no 1 (r1.Notches.map cI),.sl .no 1 (r1.Coins.map cI),.sl (.id (g+2+3+5+0)) 1 (l2.map cI),.sl (.id (g+2+3+5+4)) 1 (l3.map cI),.sl (.id (g+2+3+5+8)) 1 (l4.map cI),.i a0.Plays,.i a0.Skips])]) [true,true,true,false,true] rfl
 refine zgn [(2,.ptr (g+1) 0)] (.k .nil) ?_
 refine za0 ?_
 refine za8 (x:=.agg [.i r1.Round,.sl .no 1 (r1.Notches.map cI),.sl .no 1 (r1.Coins.map cI),.sl (.id (g+2+3+5+0)) 1 (l2.map cI),.sl (.id (g+2+3+5+4)) 1 (l3.map cI),.sl (.id (g+2+3+5+8)) 1 (l4.map cI),.i a0.Plays,.i a0.Skips]) (f:=fun r=>.agg [.i r.Wheel.Round,.sl .no 1 (r.Wheel.Notches.map cI),.sl .no 1 (r.Wheel.Coins.map cI),.sl .no 1 (r.Found.map cI),.sl .no 1 (r.Marked.map cI),.sl .no 1 (r.Slugs.map cI),.i r.Plays,.i r.Skips]) (.inr rfl) ?_ (.aggL (.k (.k (.k (.cons (.sl _ _ _) (.cons (.sl _ _ _) (.cons (.sl _ _ _) (.k (.k .nil))))))))) (Option.some.inj hM) hS
 exact (zaH (zd3 (x:=.agg [.i r1.Round,.sl .no 1 (r1.Notches.map cI),.sl .no 1 (r1.Coins.map cI),.sl (.id (g+2+3+5+0)) 1 (l2.map cI),.sl (.id (g+2+3+5+4)) 1 (l3.map cI),.sl (.id (g+2+3+5+8)) 1 (l4.map cI),.i a0.Plays,.i a0.Skips]) 3 hS rfl rfl (pg zcw)))
theorem zjF {n:Nat} {a0:Wheel} {a1:List Int} {r:Int} (hM:zf1 n a0 a1=some r):zaR Try.prog 23 [.agg (Wheel.cells a0),.sl .no 1 (a1.map cI)] (.i r):=by
 refine zau mixed Try.func23 rfl (by decide) Try.ntmps23 (by simp) ?pure fun H0 g hf=>?_
 case pure=>exact .v _
 rw [zam]
 change wpA _ _ _ _ (Fr.of [(0,.agg (Wheel.cells a0)),(1,.sl .no 1 (a1.map cI))]) H0 g
 have hS:=St.start hf
 refine Sq ?_
 refine Rg 2 ?_
 refine zcE (v:=.agg (Wheel.cells a0)) (cs:=(Wheel.cells a0)) hS (by decide) rfl rfl (by omega) fun H hS=>?_
 refine Oa (.i 0) ?_
 refine Ni ?_
 refine za6 (L':=[]) 0 2 hS rfl rfl rfl fun H hS=>?_
 refine Ws ?_
 refine Sq ?_
 refine Rg 1 ?_
 refine Oa (.i 0) ?_
 refine Ni ?_
 refine Ws ?_
 refine za2 (J:=Int) (fun j=>[(5,.i j)]) (fun j H' g'=>St (·<g) H0 [] H' g'/\zdF j=some r) ?_ ?_
 ·rintro v1 H g1 ⟨hS,hM⟩
  change wpA _ _ _ _ (Fr.of [(5,.i v1)]) _ _
  replace hS:St (·<g) H0 [] H g1:=hS
  replace hM:zdF v1=some r:=hM
  refine Sq ?_
  refine Rg 2 ?_
  refine Om (.i v1) ?_
  refine Oa (.i v1) ?_
  refine Ni ?_
  refine Ws ?_
  refine za0 ?_
  refine za8 (x:=.i v1) (f:=fun r=>.i r) (.inr rfl) ?_ (.refl _) (Option.some.inj hM) hS
  exact (zaH (zaf (x:=.i v1) rfl))
 ·refine Sq ?_
  refine Rg 1 ?_
  refine Oa (.i 0) ?_
  refine Ni ?_
  refine Ws ?_
  refine zaG ?_
  refine zcx (V:=Int×Int) (fun v=>[(1,.sl .no 1 (a1.map cI)),(2,.ep (Wheel.cells a0)),(5,.i v.1),(6,.i v.2)]) (fun v m2 H' g'=>St (·<g) H0 [] H' g'/\zbG a0 a1 m2 v.1 v.2=some r) (n:=n) (0,0) (.k (.k (.k (.k .nil)))) ⟨(hS.keep [] rfl).up (by omega),hM⟩ ?_
  rintro ⟨v2,v3⟩ m2 H g2 ⟨hS,hM⟩
  obtain _ | m2:=m2
  ·exact nomatch (show none=some _ from hM)
  change wpA _ _ _ _ (Fr.of [(1,.sl .no 1 (a1.map cI)),(2,.ep (Wheel.cells a0)),(5,.i v2),(6,.i v3)]) _ _
  replace hS:St (·<g) H0 [] H g2:=hS
  replace hM:zda a0 a1 (zbG a0 a1 m2) v2 v3=some r:=hM
  refine Sq ?_
  refine Sq ?_
  refine Rg 4 ?_
  refine Om (.i v3) ?_
  refine Om (.sl .no 1 (a1.map cI)) ?_
  refine zct (n:=a1.length) (by decide) rfl (List.length_map _) zaT ?_
  refine Oi (.b (decide (v3<(a1.length:Int)))) ?_
  refine Ni ?_
  refine Ws ?_
  rcases bft (decide (v3<(a1.length:Int))) with hb4 | hb4
  ·replace hM:=ifT hM hb4
   refine Ct hb4 ?_
   refine zaD ?_
   refine Ws ?_
   refine Sq ?_
   refine zaG ?_
   have hS0:=hS
   refine zcJ (n:=13) rfl (by kernel_rfl) ?_
   refine Om (.i v2) ?_
   refine Om (.sl .no 1 (a1.map cI)) ?_
   refine Om (.i v3) ?_
   obtain ⟨x5,hx5,hM⟩:=zak hM
   refine zbb (xs:=a1) (f:=cI) (z:=v3) (u:=x5) (by decide) rfl rfl zaJ hx5 ?_
   refine Olp (.i x5) zag zas ?_
   refine Of ((Wheel.cells a0)) zb8 ?_
   refine Olp (.sl .no 1 (a0.Coins.map cI)) zaC zaW ?_
   refine Om (.i v3) ?_
   obtain ⟨x6,hx6,hM⟩:=zak hM
   refine zbb (xs:=a0.Coins) (f:=cI) (z:=v3) (u:=x6) (by decide) rfl rfl zaJ hx6 ?_
   refine Olp (.i x6) zag zas ?_
   refine Oi (.i (w64 (x5*x6))) ?_
   refine Oi (.i (w64 (v2+(w64 (x5*x6))))) ?_
   refine Oa (.i (w64 (v2+(w64 (x5*x6))))) ?_
   refine Ni ?_
   refine zaw ?_
   refine Ws ?_
   refine Rg 3 ?_
   refine Om (.i v3) ?_
   refine Oi (.i (w64 (v3+1))) ?_
   refine Oa (.i (w64 (v3+1))) ?_
   refine Ni ?_
   exact zbn (w64 (v2+(w64 (x5*x6))),w64 (v3+1)) (Nat.lt_succ_self _) (.k (.k (.k (.k .nil)))) ⟨(hS.keep [] rfl).up (by omega),hM⟩
  ·replace hM:=ifF hM hb4
   refine Cf hb4 ?_
   refine zbX ?_
   refine zax ?_
   refine zaA ?_
   refine zaI ?_
   exact zai v2 (.k .nil) ⟨(hS.keep [] rfl).up (by omega),hM⟩
theorem zhb {n:Nat} {a0:Box} {r:Int×Int} (hM:zb4 n a0=some r):zaR Try.prog 37 [.agg (Box.cells a0)] (.tup [.i r.1,.i r.2]):=by
 refine zau mixed Try.func37 rfl (by decide) Try.ntmps37 (by simp) ?pure fun H0 g hf=>?_
 case pure=>exact .tup _ (zac (.v _) (zac (.v _) zaQ))
 rw [zam]
 change wpA _ _ _ _ (Fr.of [(0,.agg (Box.cells a0))]) H0 g
 have hS:=St.start hf
 refine Sq ?_
 refine Rg 3 ?_
 refine zcE (v:=.agg (Box.cells a0)) (cs:=(Box.cells a0)) hS (by decide) rfl rfl (by omega) fun H hS=>?_
 refine Oa (.i 0) ?_
 refine Oa (.i 0) ?_
 refine Ni ?_
 refine za6 (L':=[]) 0 1 hS rfl rfl rfl fun H hS=>?_
 refine Ws ?_
 refine Sq ?_
 refine Rg 7 ?_
 refine Olg (.agg (Box.cells a0)) zcw ?_
 obtain ⟨r1,hr1,hM⟩:=zak hM
 refine zaK (bs:=[.agg (Box.cells a0)]) (by decide) rfl rfl ((zgZ hr1).le (.k .nil)) ?_
 refine Om (.tup [pA Box_.cells r1.1,.i r1.2]) ?_
 refine Ox (pA Box_.cells r1.1) ?_
 refine Ox (.i r1.2) ?_
 refine Oa (pA Box_.cells r1.1) ?_
 refine Oa (.i r1.2) ?_
 refine Ni ?_
 refine Ws ?_
 refine Sq ?_
 refine Sq ?_
 refine Rg 2 ?_
 refine Om (.i r1.2) ?_
 refine Oi (.b (r1.2 != 0)) ?_
 refine Ni ?_
 refine Ws ?_
 rcases bft (r1.2 != 0) with hb2 | hb2
 ·replace hM:=ifT hM hb2
  refine Ct hb2 ?_
  refine Sq ?_
  refine Rg 3 ?_
  refine Om (.i r1.2) ?_
  refine Oa (.i 0) ?_
  refine Oa (.i r1.2) ?_
  refine Ni ?_
  refine Ws ?_
  refine za0 ?_
  refine zan ?_
  refine za8 (x:=.tup [.i 0,.i r1.2]) (f:=fun r=>.tup [.i r.1,.i r.2]) (.inr rfl) ?_ (.refl _) (Option.some.inj hM) hS
  exact (zcy (zaf (x:=.i 0) rfl) (zaf (x:=.i r1.2) rfl))
 ·replace hM:=ifF hM hb2
  refine Cf hb2 ?_
  refine zaD ?_
  refine Ws ?_
  refine za2 (J:=Unit) (fun j=>[]) (fun j H' g'=>St (·<g) H0 [] H' g'/\zd9=some r) ?_ ?_
  ·rintro _ H g1 ⟨hS,hM⟩
   change wpA _ _ _ _ (Fr.of []) _ _
   replace hS:St (·<g) H0 [] H g1:=hS
   replace hM:zd9=some r:=hM
   refine Sq ?_
   refine Rg 2 ?_
   refine Oa (.i 0) ?_
   refine Oa (.i 3) ?_
   refine Ni ?_
   refine Ws ?_
   refine za0 ?_
   refine za8 (x:=.tup [.i 0,.i 3]) (f:=fun r=>.tup [.i r.1,.i r.2]) (.inr rfl) ?_ (.refl _) (Option.some.inj hM) hS
   exact (zcy (zaf (x:=.i 0) rfl) (zaf (x:=.i 3) rfl))
  ·refine Sq ?_
   refine Rg 4 ?_
   refine Om (pA Box_.cells r1.1) ?_
   obtain ⟨r3,hr3,hM⟩:=zak hM
   refine zaK (bs:=[pA Box_.cells r1.1]) (by decide) rfl rfl ((zg9 hr3).le (.k .nil)) ?_
   refine zct (n:=r3.length) (by decide) rfl (List.length_map _) zaT ?_
   refine Om (.i 0) ?_
   refine Ni ?_
   refine Ws ?_
   refine zaG ?_
   refine zcx (V:=Int) (fun v=>[(1,.ep (Box.cells a0)),(17,.sl .no 1 (r3.map cI)),(18,.i (r3.length:Int)),(19,.i v)]) (fun v m2 H' g'=>St (·<g) H0 [] H' g'/\zb3 a0 r3 m2 v=some r) (n:=n) 0 (.k (.k (.k (.k .nil)))) ⟨(hS.keep [] rfl).up (by omega),hM⟩ ?_
   rintro v4 m2 H g2 ⟨hS,hM⟩
   obtain _ | m2:=m2
   ·exact nomatch (show none=some _ from hM)
   change wpA _ _ _ _ (Fr.of [(1,.ep (Box.cells a0)),(17,.sl .no 1 (r3.map cI)),(18,.i (r3.length:Int)),(19,.i v4)]) _ _
   replace hS:St (·<g) H0 [] H g2:=hS
   replace hM:zdj a0 r3 (zb3 a0 r3 m2) v4=some r:=hM
   refine Sq ?_
   refine Rg 1 ?_
   refine Oi (.b (decide (v4<(r3.length:Int)))) ?_
   refine Ni ?_
   refine Ws ?_
   refine Sq ?_
   rcases bft (decide (v4<(r3.length:Int))) with hb5 | hb5
   ·replace hM:=ifT hM hb5
    refine Ct hb5 ?_
    refine zaD ?_
    refine Ws ?_
    refine Sq ?_
    refine zaG ?_
    refine Sq ?_
    refine Rg 3 ?_
    obtain ⟨x6,hx6,hM⟩:=zak hM
    refine zbb (xs:=r3) (f:=cI) (z:=v4) (u:=x6) (by decide) rfl rfl zaJ hx6 ?_
    refine Olp (.i x6) zag zas ?_
    refine Oa (.i x6) ?_
    refine Ni ?_
    refine Ws ?_
    refine Sq ?_
    refine Rg 4 ?_
    refine Om (.i x6) ?_
    refine Of ((Box.cells a0)) zfg ?_
    refine Olp (.i a0.Plays) zag zas ?_
    refine Oi (.b (decide (x6≥a0.Plays))) ?_
    refine Ni ?_
    refine Ws ?_
    rcases bft (decide (x6≥a0.Plays)) with hb7 | hb7
    ·replace hM:=ifT hM hb7
     refine Ct hb7 ?_
     refine Sq ?_
     refine Rg 6 ?_
     refine Om (.i x6) ?_
     refine Of ((Box.cells a0)) zfg ?_
     refine Olp (.i a0.Plays) zag zas ?_
     refine Oi (.i (w64 (x6-a0.Plays))) ?_
     refine Oa (.i (w64 (x6-a0.Plays))) ?_
     refine Oa (.i 0) ?_
     refine Ni ?_
     refine Ws ?_
     refine za0 ?_
     refine za5 ?_
     refine zan ?_
     refine zbY ?_
     refine za5 ?_
     refine zcG ?_
     refine za8 (x:=.tup [.i (w64 (x6-a0.Plays)),.i 0]) (f:=fun r=>.tup [.i r.1,.i r.2]) (.inr rfl) ?_ (.refl _) (Option.some.inj hM) hS
     exact (zcy (zaf (x:=.i (w64 (x6-a0.Plays))) rfl) (zaf (x:=.i 0) rfl))
    ·replace hM:=ifF hM hb7
     refine Cf hb7 ?_
     refine zaD ?_
     refine zaw ?_
     refine Ws ?_
     refine Rg 2 ?_
     refine Oi (.i (w64 (v4+1))) ?_
     refine Om (.i (w64 (v4+1))) ?_
     refine Ni ?_
     exact zbn (w64 (v4+1)) (Nat.lt_succ_self _) (.k (.k (.k (.k .nil)))) ⟨(hS.keep [] rfl).up (by omega),hM⟩
   ·replace hM:=ifF hM hb5
    refine Cf hb5 ?_
    refine zbX ?_
    refine zax ?_
    refine zaA ?_
    refine zaI ?_
    exact zai () .nil ⟨(hS.keep [] rfl).up (by omega),hM⟩
theorem zh3 {p1:Nat} (hnd:[p1].Nodup) {n:Nat} {a0:Wheel_} {a1:List Int} {st:Spot_} {r:Bool×Spot_} (hM:zdG n a0 a1 st=some r):zkE Try.prog 107 [.agg (Wheel.cells a0.Wheel),.ep [.sl .no 1 (a1.map cI)],.ptr p1 0] [(p1,.cells (Spot_.cells st))] (.b r.1) [(p1,.cells [.i r.2.left.c0,.i r.2.left.c1,.i r.2.left.c2,.i r.2.left.c3,.i r.2.place,.i r.2.credit])]:=by
 refine zdX mixed Try.func107 rfl (by decide) Try.ntmps107 (by simp) (zgb zhS) hnd ?pure ?cells fun H0 g hf_ hp=>?_
 case pure=>exact fun H _=>(show Go.AM.Pure _ from .v _).inH
 case cells=>exact (zkr (zf7 (zcz (.inl (.inl (.v _))) (zcz (.inl (.inl (.v _))) (zcz (.inl (.inl (.v _))) (zcz (.inl (.inl (.v _))) (zcz (.inl (.inl (.v _))) (zcz (.inl (.inl (.v _))) zja)))))) zkq) zgp)
 rw [zam]
 change wpA _ _ _ _ (Fr.of [(0,.agg (Wheel.cells a0.Wheel)),(1,.ep [.sl .no 1 (a1.map cI)]),(2,.ptr p1 0)]) H0 g
 have hS:=St.startH (L:=[(p1,.cells (Spot_.cells st))]) hf_ hnd hp
 replace hS:St (fun i=>i<g/\i∉ids [(p1,.cells (Spot_.cells st))]) H0 [(p1,.cells (Spot_.cells st))] H0 g:=hS
 refine Sq ?_
 refine Rg 2 ?_
 refine zcE (v:=.agg (Wheel.cells a0.Wheel)) (cs:=(Wheel.cells a0.Wheel)) hS (by decide) rfl rfl (by omega) fun H hS=>?_
 refine Oa (.b false) ?_
 refine Ni ?_
 refine za6 (L':=[(p1,.cells (Spot_.cells st))]) 0 3 hS rfl rfl rfl fun H hS=>?_
 refine Ws ?_
 refine Sq ?_
 refine Rg 1 ?_
 refine Oa (.i 0) ?_
 refine Ni ?_
 refine Ws ?_
 refine za2 (J:=Int×Int×Int×Int×Int) (fun j=>[(1,.ep [.sl .no 1 (a1.map cI)]),(3,.ep (Wheel.cells a0.Wheel)),(5,.i j.1)]) (fun j H' g'=>St (fun i=>i<g/\i∉ids [(p1,.cells (Spot_.cells st))]) H0 [(p1,.cells [.i j.2.1,.i j.2.2.1,.i j.2.2.2.1,.i j.2.2.2.2,.i st.place,.i st.credit])] H' g'/\zeN a0 st a1 j.1 j.2.1 j.2.2.1 j.2.2.2.1 j.2.2.2.2=some r) ?_ ?_
 ·rintro ⟨v1,v2,v3,v4,v5⟩ H g1 ⟨hS,hM⟩
  change wpA _ _ _ _ (Fr.of [(1,.ep [.sl .no 1 (a1.map cI)]),(3,.ep (Wheel.cells a0.Wheel)),(5,.i v1)]) _ _
  replace hS:St (fun i=>i<g/\i∉ids [(p1,.cells (Spot_.cells st))]) H0 [(p1,.cells [.i v2,.i v3,.i v4,.i v5,.i st.place,.i st.credit])] H g1:=hS
  replace hM:zeN a0 st a1 v1 v2 v3 v4 v5=some r:=hM
  refine za2 (J:=Bool) (fun j=>[(4,.b j)]) (fun j H' g'=>St (fun i=>i<g/\i∉ids [(p1,.cells (Spot_.cells st))]) H0 [(p1,.cells [.i v2,.i v3,.i v4,.i v5,.i st.place,.i st.credit])] H' g'/\zdT st v2 v3 v4 v5 j=some r) ?_ ?_
  ·rintro v6 H g2 ⟨hS,hM⟩
   change wpA _ _ _ _ (Fr.of [(4,.b v6)]) _ _
   replace hS:St (fun i=>i<g/\i∉ids [(p1,.cells (Spot_.cells st))]) H0 [(p1,.cells [.i v2,.i v3,.i v4,.i v5,.i st.place,.i st.credit])] H g2:=hS
   replace hM:zdT st v2 v3 v4 v5 v6=some r:=hM
   refine za0 ?_
   refine zfL (x:=.b v6) (f:=fun r=>.b r.1) (fd:=fun r=>[(p1,.cells [.i r.2.left.c0,.i r.2.left.c1,.i r.2.left.c2,.i r.2.left.c3,.i r.2.place,.i r.2.credit])]) (.inr rfl) ?_ (.refl _) (Option.some.inj hM) hS 0 rfl
   exact (zaH (zaf (x:=.b v6) rfl))
  ·refine Rg 12 ?_
   refine Olp (.sl .no 1 (a1.map cI)) zaC zaW ?_
   refine zct (n:=a1.length) (by decide) rfl (List.length_map _) zaT ?_
   refine Of ((Wheel.cells a0.Wheel)) zcV ?_
   refine Of ((Wheel.cells a0.Wheel)) zb8 ?_
   refine Olp (.sl .no 1 (a0.Wheel.Coins.map cI)) zaC zaW ?_
   refine zct (n:=a0.Wheel.Coins.length) (by decide) rfl (List.length_map _) zaT ?_
   refine Oi (.b ((a1.length:Int)==(a0.Wheel.Coins.length:Int))) ?_
   refine Om (.b ((a1.length:Int)==(a0.Wheel.Coins.length:Int))) ?_
   rcases bft ((a1.length:Int)==(a0.Wheel.Coins.length:Int)) with hb7 | hb7
   ·replace hM:=ifT hM hb7
    refine Oy (want:=true) hb7 ?_
    refine Om (.i v1) ?_
    refine Oy (want:=true) hb7 ?_
    refine Oi (.b (decide (v1<=12))) ?_
    refine Pt (.b (decide (v1<=12))) hb7 ?_
    refine Oa (.b (decide (v1<=12))) ?_
    refine Ni ?_
    exact zai (decide (v1<=12)) (.k .nil) ⟨(hS.keep [true] rfl).up (by omega),hM⟩
   ·replace hM:=ifF hM hb7
    refine On (want:=true) hb7 ?_
    refine On (want:=true) hb7 ?_
    refine Pf (.b false) hb7 ?_
    refine Oa (.b false) ?_
    refine Ni ?_
    exact zai false (.k .nil) ⟨(hS.keep [true] rfl).up (by omega),hM⟩
 ·refine Sq ?_
  refine Rg 3 ?_
  refine Olp (.sl .no 1 (a1.map cI)) zaC zaW ?_
  refine zct (n:=a1.length) (by decide) rfl (List.length_map _) zaT ?_
  refine Om (.i 0) ?_
  refine Ni ?_
  refine Ws ?_
  refine zaG ?_
  refine zcx (V:=Int×Int×Int×Int×Int×Int) (fun v=>[(1,.ep [.sl .no 1 (a1.map cI)]),(2,.ptr p1 0),(3,.ep (Wheel.cells a0.Wheel)),(5,.i v.1),(8,.sl .no 1 (a1.map cI)),(9,.i (a1.length:Int)),(10,.i v.2.1)]) (fun v m4 H' g'=>St (fun i=>i<g/\i∉ids [(p1,.cells (Spot_.cells st))]) H0 [(p1,.cells [.i v.2.2.1,.i v.2.2.2.1,.i v.2.2.2.2.1,.i v.2.2.2.2.2,.i st.place,.i st.credit])] H' g'/\zbD a0 st a1 m4 v.1 v.2.1 v.2.2.1 v.2.2.2.1 v.2.2.2.2.1 v.2.2.2.2.2=some r) (n:=n) (0,0,st.left.c0,st.left.c1,st.left.c2,st.left.c3) (.k (.k (.k (.k (.k (.k (.k .nil))))))) ⟨(hS.keep [true] rfl).up (by omega),hM⟩ ?_
  rintro ⟨v10,v11,v12,v13,v14,v15⟩ m4 H g4 ⟨hS,hM⟩
  obtain _ | m4:=m4
  ·exact nomatch (show none=some _ from hM)
  change wpA _ _ _ _ (Fr.of [(1,.ep [.sl .no 1 (a1.map cI)]),(2,.ptr p1 0),(3,.ep (Wheel.cells a0.Wheel)),(5,.i v10),(8,.sl .no 1 (a1.map cI)),(9,.i (a1.length:Int)),(10,.i v11)]) _ _
  replace hS:St (fun i=>i<g/\i∉ids [(p1,.cells (Spot_.cells st))]) H0 [(p1,.cells [.i v12,.i v13,.i v14,.i v15,.i st.place,.i st.credit])] H g4:=hS
  replace hM:zea a0 st a1 (zbD a0 st a1 m4) v10 v11 v12 v13 v14 v15=some r:=hM
  refine Sq ?_
  refine Rg 1 ?_
  refine Oi (.b (decide (v11<(a1.length:Int)))) ?_
  refine Ni ?_
  refine Ws ?_
  refine Sq ?_
  rcases bft (decide (v11<(a1.length:Int))) with hb16 | hb16
  ·replace hM:=ifT hM hb16
   refine Ct hb16 ?_
   refine zaD ?_
   refine Ws ?_
   refine Sq ?_
   refine zaG ?_
   refine Sq ?_
   refine Rg 5 ?_
   refine Om (.i v11) ?_
   obtain ⟨x17,hx17,hM⟩:=zak hM
   refine zbb (xs:=a1) (f:=cI) (z:=v11) (u:=x17) (by decide) rfl rfl zaJ hx17 ?_
   refine Olp (.i x17) zag zas ?_
   refine Oa (.i v11) ?_
   refine Oa (.i x17) ?_
   refine Ni ?_
   refine Ws ?_
   refine Sq ?_
   refine za2 (J:=Bool) (fun j=>[(1,.ep [.sl .no 1 (a1.map cI)]),(2,.ptr p1 0),(3,.ep (Wheel.cells a0.Wheel)),(5,.i v10),(6,.i v11),(7,.i x17),(8,.sl .no 1 (a1.map cI)),(9,.i (a1.length:Int)),(10,.i v11),(25,.b j)]) (fun j H' g'=>St (fun i=>i<g/\i∉ids [(p1,.cells (Spot_.cells st))]) H0 [(p1,.cells [.i v12,.i v13,.i v14,.i v15,.i st.place,.i st.credit])] H' g'/\zc4 (zbD a0 st a1 m4) st v10 v11 v12 v13 v14 v15 x17 j=some r) ?_ ?_
   ·rintro v18 H g5 ⟨hS,hM⟩
    change wpA _ _ _ _ (Fr.of [(1,.ep [.sl .no 1 (a1.map cI)]),(2,.ptr p1 0),(3,.ep (Wheel.cells a0.Wheel)),(5,.i v10),(6,.i v11),(7,.i x17),(8,.sl .no 1 (a1.map cI)),(9,.i (a1.length:Int)),(10,.i v11),(25,.b v18)]) _ _
    replace hS:St (fun i=>i<g/\i∉ids [(p1,.cells (Spot_.cells st))]) H0 [(p1,.cells [.i v12,.i v13,.i v14,.i v15,.i st.place,.i st.credit])] H g5:=hS
    replace hM:zc4 (zbD a0 st a1 m4) st v10 v11 v12 v13 v14 v15 x17 v18=some r:=hM
    rcases bft v18 with hb19 | hb19
    ·replace hM:=ifT hM hb19
     refine Ct hb19 ?_
     refine Sq ?_
     refine Rg 1 ?_
     refine Oa (.b false) ?_
     refine Ni ?_
     refine Ws ?_
     refine za0 ?_
     refine zan ?_
     refine za5 ?_
     refine zan ?_
     refine zbY ?_
     refine za5 ?_
     refine zcG ?_
     refine zfL (x:=.b false) (f:=fun r=>.b r.1) (fd:=fun r=>[(p1,.cells [.i r.2.left.c0,.i r.2.left.c1,.i r.2.left.c2,.i r.2.left.c3,.i r.2.place,.i r.2.credit])]) (.inr rfl) ?_ (.refl _) (Option.some.inj hM) hS 0 rfl
     exact (zaH (zaf (x:=.b false) rfl))
    ·replace hM:=ifF hM hb19
     refine Cf hb19 ?_
     refine zaD ?_
     refine Ws ?_
     refine Sq ?_
     refine Rg 5 ?_
     refine Om (.i v11) ?_
     refine Om (.i x17) ?_
     refine zao (by decide) zg6 rfl ?_
     obtain ⟨x20,hx20,hM⟩:=zak hM
     refine zfF (z:=v11) (by decide) rfl rfl zjm (zeB hx20) ?_
     obtain ⟨l21,hl21,hM⟩:=zak hM
     refine zjf (xs:=([v12,v13,v14,v15]:List Int)) (u:=l21) (z:=v11) (v:=x17) (off:=0+0) (cs':=[.i (l21.getD 0 0),.i (l21.getD 1 0),.i (l21.getD 2 0),.i (l21.getD 3 0),.i st.place,.i st.credit]) (L':=[(p1,.cells [.i (l21.getD 0 0),.i (l21.getD 1 0),.i (l21.getD 2 0),.i (l21.getD 3 0),.i st.place,.i st.credit])]) 0 hS rfl rfl .no rfl rfl hl21 zdt rfl rfl fun H hS=>?_
     refine Ni ?_
     refine Ws ?_
     refine Rg 4 ?_
     refine Om (.i v10) ?_
     refine Om (.i x17) ?_
     refine Oi (.i (w64 (v10+x17))) ?_
     refine Oa (.i (w64 (v10+x17))) ?_
     refine Ni ?_
     refine zaw ?_
     refine Ws ?_
     refine Rg 2 ?_
     refine Oi (.i (w64 (v11+1))) ?_
     refine Om (.i (w64 (v11+1))) ?_
     refine Ni ?_
     exact zbn (w64 (v10+x17),w64 (v11+1),(l21.getD 0 0),(l21.getD 1 0),(l21.getD 2 0),(l21.getD 3 0)) (Nat.lt_succ_self _) (.k (.k (.k (.k (.k (.k (.k .nil))))))) ⟨(hS.keep [true] rfl).up (by omega),hM⟩
   ·refine Rg 11 ?_
    refine Om (.i v11) ?_
    refine Of ((Wheel.cells a0.Wheel)) zcV ?_
    refine Of ((Wheel.cells a0.Wheel)) zb8 ?_
    refine Olp (.sl .no 1 (a0.Wheel.Coins.map cI)) zaC zaW ?_
    refine zct (n:=a0.Wheel.Coins.length) (by decide) rfl (List.length_map _) zaT ?_
    refine Oi (.b (decide (v11≥(a0.Wheel.Coins.length:Int)))) ?_
    refine Om (.b (decide (v11≥(a0.Wheel.Coins.length:Int)))) ?_
    rcases bft (decide (v11≥(a0.Wheel.Coins.length:Int))) with hb22 | hb22
    ·replace hM:=ifT hM hb22
     refine On (want:=false) hb22 ?_
     refine On (want:=false) hb22 ?_
     refine On (want:=false) hb22 ?_
     refine Pt (.b true) hb22 ?_
     refine Ni ?_
     exact zai true (.k (.k (.k (.k (.k (.k (.k (.k (.k (.k .nil)))))))))) ⟨(hS.keep [true] rfl).up (by omega),hM⟩
    ·replace hM:=ifF hM hb22
     refine Oy (want:=false) hb22 ?_
     refine Om (.i x17) ?_
     refine Oy (want:=false) hb22 ?_
     obtain ⟨r23,hr23,hM⟩:=zak hM
     refine zaK (bs:=[.i x17,.i 0,.i 12]) (by decide) rfl rfl ((zde hr23).le (.k (.k (.k .nil)))) ?_
     refine Oy (want:=false) hb22 ?_
     refine ze8 (e:=r23) (by decide) rfl ?_
     refine Pf (.b (!r23)) hb22 ?_
     refine Ni ?_
     exact zai (!r23) (.k (.k (.k (.k (.k (.k (.k (.k (.k (.k .nil)))))))))) ⟨(hS.keep [true] rfl).up (by omega),hM⟩
  ·replace hM:=ifF hM hb16
   refine Cf hb16 ?_
   refine zbX ?_
   refine zax ?_
   refine zaA ?_
   refine zaI ?_
   exact zai (v10,v12,v13,v14,v15) (.k (.k (.k .nil))) ⟨(hS.keep [true] rfl).up (by omega),hM⟩
theorem zhc {n:Nat} {a0:Wheel} {a1:List Int} {a2:Bool} {r:Spot_×Int} (hM:zgf n a0 a1 a2=some (none,r)):zaR Try.prog 77 [.agg (Wheel.cells a0),.sl .no 1 (a1.map cI),fnB a2] (.tup [.v (.pointer none),.agg [.i r.1.left.c0,.i r.1.left.c1,.i r.1.left.c2,.i r.1.left.c3,.i r.1.place,.i r.1.credit],.i r.2]):=by
 refine zau mixed Try.func77 rfl (by decide) Try.ntmps77 (by simp) ?pure fun H0 g hf=>?_
 case pure=>exact .tup _ (zac (.v _) (zac (.agg _ (zac (.v _) (zac (.v _) (zac (.v _) (zac (.v _) (zac (.v _) (zac (.v _) zaQ))))))) (zac (.v _) zaQ)))
 rw [zam]
 change wpA _ _ _ _ (Fr.of [(0,.agg (Wheel.cells a0)),(1,.sl .no 1 (a1.map cI)),(2,fnB a2)]) H0 g
 have hS:=St.start hf
 refine Sq ?_
 refine Rg 5 ?_
 refine zcE (v:=.agg (Wheel.cells a0)) (cs:=(Wheel.cells a0)) hS (by decide) rfl rfl (by omega) fun H hS=>?_
 refine zcE (v:=.sl .no 1 (a1.map cI)) (cs:=[.sl .no 1 (a1.map cI)]) hS (by decide) rfl rfl (by omega) fun H hS=>?_
 refine Oa (.v (.pointer none)) ?_
 refine zba hS (by decide) zcU (by omega) fun H hS=>?_
 refine Oa (.i 0) ?_
 refine Ni ?_
 refine za6 (L':=[(g+3,.cells [.i 0,.i 0,.i 0,.i 0,.i 0,.i 0]),(g+1,.cells [.sl .no 1 (a1.map cI)])]) 2 3 hS rfl rfl rfl fun H hS=>?_
 refine za6 (L':=[(g+3,.cells [.i 0,.i 0,.i 0,.i 0,.i 0,.i 0])]) 1 4 hS rfl rfl rfl fun H hS=>?_
 refine Ws ?_
 refine Sq ?_
 refine Rg 1 ?_
 refine zba hS (by decide) zcU (by omega) fun H hS=>?_
 refine Ni ?_
 refine Ws ?_
 refine Sq ?_
 refine Rg 9 ?_
 refine Olg (.agg (Wheel.cells a0)) zbS ?_
 refine zer (first:=[]) (cap:=[.ep [.sl .no 1 (a1.map cI)],.ptr (g+5+0) 0]) (by decide) rfl rfl ?_
 obtain ⟨r1,hr1,hM⟩:=zak hM
 have hndr1:=hS.nd_at (ns:=[0]) (M:=[(g+5+0,.cells [.i 0,.i 0,.i 0,.i 0,.i 0,.i 0])]) (M':=[(g+5+0,.cells (Spot_.cells r1.2))]) (.cons rfl .nil) (by decide)
 have hncr1:=hS.nd_at (ns:=[0]) (M:=[(g+5+0,.cells [.i 0,.i 0,.i 0,.i 0,.i 0,.i 0])]) (M':=[(g+5+0,.cells (Spot_.cells r1.2))]) (.cons rfl .nil) (by decide)
 refine zln (bs:=[.agg (Wheel.cells a0),.fn (.func 107) [] [.ep [.sl .no 1 (a1.map cI)],.ptr (g+5+0) 0]]) (M:=[(g+5+0,.cells [.i 0,.i 0,.i 0,.i 0,.i 0,.i 0])]) (M':=[(g+5+0,.cells (Spot_.cells r1.2))]) (L':=[(g+5+0,.cells (Spot_.cells r1.2)),(g+3,.cells [.i 0,.i 0,.i 0,.i 0,.i 0,.i 0])]) [0] (.inl rfl) hS (by decide) rfl rfl ((zgR (Lo:=(fun (s:Spot_)=>[(g+5+0,.cells (Spot_.cells s))]))  (fun _ _=>(zgb zhS)) (fun _=>hndr1) (fun s=>(zkr (zf7 (zcz (.inl (.inl (.v _))) (zcz (.inl (.inl (.v _))) (zcz (.inl (.inl (.v _))) (zcz (.inl (.inl (.v _))) (zcz (.inl (.inl (.v _))) (zcz (.inl (.inl (.v _))) zja)))))) zkq) zgp)) (aF:=(fun (x0:Wheel_) s=>zdG n x0 a1 s)) (fun s H hH=>(.fn _ _ _ zdU (zbI (.ep _ (zbI (show Go.AM.Pure _ from .sl _ _ (zaL (fun x=>(zac (.v _) zaQ)))).inH zdU)) (zbI (zn7 hH 0 rfl) zdU)))) rfl (fun h=>zlt (zh3 (p1:=g+5+0)  hncr1 h)) hr1).le (.k (.k .nil))) (.cons rfl .nil) rfl (by omega) fun H hS=>?_
 refine Om (.tup [.agg (Wheel.cells r1.1.1.Wheel),.i r1.1.2]) ?_
 refine Ox (.agg (Wheel.cells r1.1.1.Wheel)) ?_
 refine Ox (.i r1.1.2) ?_
 refine zba hS (by decide) zez (by omega) fun H hS=>?_
 refine zaE (v:=.agg (Wheel.cells r1.1.1.Wheel)) (ns:=(Wheel.cells r1.1.1.Wheel)) (L':=[(g+5+1+6,.cells (Wheel.cells r1.1.1.Wheel)),(g+5+0,.cells (Spot_.cells r1.2)),(g+3,.cells [.i 0,.i 0,.i 0,.i 0,.i 0,.i 0])]) 0 hS rfl rfl .no rfl rfl zgt nlb rfl fun H hS=>?_
 refine Oa (.i r1.1.2) ?_
 refine Ni ?_
 refine za6 (L':=[(g+5+0,.cells (Spot_.cells r1.2)),(g+3,.cells [.i 0,.i 0,.i 0,.i 0,.i 0,.i 0])]) 0 10 hS rfl rfl rfl fun H hS=>?_
 refine Ws ?_
 refine Sq ?_
 refine Sq ?_
 refine Rg 2 ?_
 refine Om (.i r1.1.2) ?_
 refine Oi (.b (r1.1.2 != 0)) ?_
 refine Ni ?_
 refine Ws ?_
 rcases bft (r1.1.2 != 0) with hb2 | hb2
 ·replace hM:=ifT hM hb2
  refine Ct hb2 ?_
  refine Sq ?_
  refine Rg 5 ?_
  refine zbE (cs:=[.i 0,.i 0,.i 0,.i 0,.i 0,.i 0]) (by decide) zcU zqo rfl ?_
  refine Om (.i r1.1.2) ?_
  refine Oa (.v (.pointer none)) ?_
  refine zaE (v:=.agg [.i 0,.i 0,.i 0,.i 0,.i 0,.i 0]) (ns:=[.i 0,.i 0,.i 0,.i 0,.i 0,.i 0]) (L':=[(g+5+0,.cells (Spot_.cells r1.2)),(g+3,.cells [.i 0,.i 0,.i 0,.i 0,.i 0,.i 0])]) 1 hS rfl rfl .no rfl rfl zel nlb rfl fun H hS=>?_
  refine Oa (.i r1.1.2) ?_
  refine Ni ?_
  replace hS:=hS.keep (L':=[(g+3,.cells [.i 0,.i 0,.i 0,.i 0,.i 0,.i 0])]) [false,true] rfl
  refine Ws ?_
  refine za0 ?_
  refine zan ?_
  refine za8 (x:=.tup [.v (.pointer none),.agg [.i 0,.i 0,.i 0,.i 0,.i 0,.i 0],.i r1.1.2]) (f:=fun r:Spot_×Int=>.tup [.v (.pointer none),.agg [.i r.1.left.c0,.i r.1.left.c1,.i r.1.left.c2,.i r.1.left.c3,.i r.1.place,.i r.1.credit],.i r.2]) (.inr rfl) ?_ (.refl _) (show ((⟨(⟨0,0,0,0⟩:Bag_),0,0⟩:Spot_),r1.1.2)=r from by injection hM with hM;exact (Prod.mk.inj hM).2) hS
  exact (zgo (zaf (x:=.v (.pointer none)) rfl) (zd3 (x:=.agg [.i 0,.i 0,.i 0,.i 0,.i 0,.i 0]) 0 hS rfl rfl (pg zcj)) (zaf (x:=.i r1.1.2) rfl))
 ·replace hM:=ifF hM hb2
  refine Cf hb2 ?_
  refine zaD ?_
  refine Ws ?_
  refine Sq ?_
  have hS0:=hS
  refine zcJ (n:=9) rfl (by kernel_rfl) ?_
  refine Olg (.agg (Wheel.cells r1.1.1.Wheel)) zcZ ?_
  refine Om (fnB a2) ?_
  refine zls (kv:=zap) hS (by decide) zjr (by omega) fun H hS=>?_
  refine zbE (cs:=(zby r1.1.1 a2 (g+5+1+9+2+2))) (by decide) zmK zqu rfl ?_
  refine zcE (v:=.agg (zby r1.1.1 a2 (g+5+1+9+2+2))) (cs:=(zby r1.1.1 a2 (g+5+1+9+2+2))) hS (by decide) rfl rfl (by omega) fun H hS=>?_
  refine zaO (v:=.agg (Spot_.cells r1.2)) 2 hS (by decide) rfl rfl (.st hS0 0 rfl (by omega)) (pg zcj) ?_
  refine Oa (.ptr (g+5+1+9+2+4) 0) ?_
  refine zaE (v:=.agg (Spot_.cells r1.2)) (ns:=(Spot_.cells r1.2)) (L':=[(g+5+1+9+2+4,.cells (zby r1.1.1 a2 (g+5+1+9+2+2))),(g+5+1+9+2+2,.obj none (zae (mpv zap ([]:List (Spot_×Int))))),(g+5+0,.cells (Spot_.cells r1.2)),(g+3,.cells (Spot_.cells r1.2))]) 3 hS rfl rfl (.st hS0 1 rfl (by omega)) rfl rfl zel nlb rfl fun H hS=>?_
  refine Oa (.i 0) ?_
  refine Ni ?_
  refine za6 (L':=[(g+5+1+9+2+2,.obj none (zae (mpv zap ([]:List (Spot_×Int))))),(g+5+0,.cells (Spot_.cells r1.2)),(g+3,.cells (Spot_.cells r1.2))]) 0 6 hS rfl rfl rfl fun H hS=>?_
  replace hS:=hS.keep (L':=[(g+5+1+9+2+2,.obj none (zae (mpv zap ([]:List (Spot_×Int))))),(g+3,.cells (Spot_.cells r1.2))]) [true,false,true] rfl
  refine zgn [(6,.ep (zby r1.1.1 a2 (g+5+1+9+2+2))),(7,.ptr (g+3) 0),(8,.i 0)] (.k (.k (.k .nil))) ?_
  refine za0 ?_
  exact nomatch congrArg (fun o=>(o.map (fun x:Option Wheel_×Spot_×Int=>x.1.isSome)).getD false) hM
theorem zhd {n:Nat} {a0:Wheel} {a1:List Int} {a2:Bool} {w:Wheel_} {r:Spot_×Int} (hM:zgf n a0 a1 a2=some (some w,r)):zrF Try.prog 77 [.agg (Wheel.cells a0),.sl .no 1 (a1.map cI),fnB a2] (fun i=>.tup [.ep (zby w a2 i),.agg [.i r.1.left.c0,.i r.1.left.c1,.i r.1.left.c2,.i r.1.left.c3,.i r.1.place,.i r.1.credit],.i r.2]) (zae (mpv zap [])) 19:=by
 refine zpn mixed Try.func77 rfl (by decide) Try.ntmps77 (by simp) ?pure fun H0 g hf=>?_
 case pure=>exact fun g H h=>.tup _ (zbI (.ep _ (zbI (show Go.AM.Pure _ from .v _).inH (zbI (show Go.AM.Pure _ from .sl _ _ (zaL (fun x=>(zac (.v _) zaQ)))).inH (zbI (show Go.AM.Pure _ from .sl _ _ (zaL (fun x=>(zac (.v _) zaQ)))).inH (zbI (show Go.AM.Pure _ from zqB _).inH (zbI (.mp _ _ _ h) zdU)))))) (zbI (show Go.AM.Pure _ from .agg _ (zac (.v _) (zac (.v _) (zac (.v _) (zac (.v _) (zac (.v _) (zac (.v _) zaQ))))))).inH (zbI (show Go.AM.Pure _ from .v _).inH zdU)))
 rw [zam]
 change wpA _ _ _ _ (Fr.of [(0,.agg (Wheel.cells a0)),(1,.sl .no 1 (a1.map cI)),(2,fnB a2)]) H0 g
 have hS:=St.start hf
 refine Sq ?_
 refine Rg 5 ?_
 refine zcE (v:=.agg (Wheel.cells a0)) (cs:=(Wheel.cells a0)) hS (by decide) rfl rfl (by omega) fun H hS=>?_
 refine zcE (v:=.sl .no 1 (a1.map cI)) (cs:=[.sl .no 1 (a1.map cI)]) hS (by decide) rfl rfl (by omega) fun H hS=>?_
 refine Oa (.v (.pointer none)) ?_
 refine zba hS (by decide) zcU (by omega) fun H hS=>?_
 refine Oa (.i 0) ?_
 refine Ni ?_
 refine za6 (L':=[(g+3,.cells [.i 0,.i 0,.i 0,.i 0,.i 0,.i 0]),(g+1,.cells [.sl .no 1 (a1.map cI)])]) 2 3 hS rfl rfl rfl fun H hS=>?_
 refine za6 (L':=[(g+3,.cells [.i 0,.i 0,.i 0,.i 0,.i 0,.i 0])]) 1 4 hS rfl rfl rfl fun H hS=>?_
 refine Ws ?_
 refine Sq ?_
 refine Rg 1 ?_
 refine zba hS (by decide) zcU (by omega) fun H hS=>?_
 refine Ni ?_
 refine Ws ?_
 refine Sq ?_
 refine Rg 9 ?_
 refine Olg (.agg (Wheel.cells a0)) zbS ?_
 refine zer (first:=[]) (cap:=[.ep [.sl .no 1 (a1.map cI)],.ptr (g+5+0) 0]) (by decide) rfl rfl ?_
 obtain ⟨r1,hr1,hM⟩:=zak hM
 have hndr1:=hS.nd_at (ns:=[0]) (M:=[(g+5+0,.cells [.i 0,.i 0,.i 0,.i 0,.i 0,.i 0])]) (M':=[(g+5+0,.cells (Spot_.cells r1.2))]) (.cons rfl .nil) (by decide)
 have hncr1:=hS.nd_at (ns:=[0]) (M:=[(g+5+0,.cells [.i 0,.i 0,.i 0,.i 0,.i 0,.i 0])]) (M':=[(g+5+0,.cells (Spot_.cells r1.2))]) (.cons rfl .nil) (by decide)
 refine zln (bs:=[.agg (Wheel.cells a0),.fn (.func 107) [] [.ep [.sl .no 1 (a1.map cI)],.ptr (g+5+0) 0]]) (M:=[(g+5+0,.cells [.i 0,.i 0,.i 0,.i 0,.i 0,.i 0])]) (M':=[(g+5+0,.cells (Spot_.cells r1.2))]) (L':=[(g+5+0,.cells (Spot_.cells r1.2)),(g+3,.cells [.i 0,.i 0,.i 0,.i 0,.i 0,.i 0])]) [0] (.inl rfl) hS (by decide) rfl rfl ((zgR (Lo:=(fun (s:Spot_)=>[(g+5+0,.cells (Spot_.cells s))]))  (fun _ _=>(zgb zhS)) (fun _=>hndr1) (fun s=>(zkr (zf7 (zcz (.inl (.inl (.v _))) (zcz (.inl (.inl (.v _))) (zcz (.inl (.inl (.v _))) (zcz (.inl (.inl (.v _))) (zcz (.inl (.inl (.v _))) (zcz (.inl (.inl (.v _))) zja)))))) zkq) zgp)) (aF:=(fun (x0:Wheel_) s=>zdG n x0 a1 s)) (fun s H hH=>(.fn _ _ _ zdU (zbI (.ep _ (zbI (show Go.AM.Pure _ from .sl _ _ (zaL (fun x=>(zac (.v _) zaQ)))).inH zdU)) (zbI (zn7 hH 0 rfl) zdU)))) rfl (fun h=>zlt (zh3 (p1:=g+5+0)  hncr1 h)) hr1).le (.k (.k .nil))) (.cons rfl .nil) rfl (by omega) fun H hS=>?_
 refine Om (.tup [.agg (Wheel.cells r1.1.1.Wheel),.i r1.1.2]) ?_
 refine Ox (.agg (Wheel.cells r1.1.1.Wheel)) ?_
 refine Ox (.i r1.1.2) ?_
 refine zba hS (by decide) zez (by omega) fun H hS=>?_
 refine zaE (v:=.agg (Wheel.cells r1.1.1.Wheel)) (ns:=(Wheel.cells r1.1.1.Wheel)) (L':=[(g+5+1+6,.cells (Wheel.cells r1.1.1.Wheel)),(g+5+0,.cells (Spot_.cells r1.2)),(g+3,.cells [.i 0,.i 0,.i 0,.i 0,.i 0,.i 0])]) 0 hS rfl rfl .no rfl rfl zgt nlb rfl fun H hS=>?_
 refine Oa (.i r1.1.2) ?_
 refine Ni ?_
 refine za6 (L':=[(g+5+0,.cells (Spot_.cells r1.2)),(g+3,.cells [.i 0,.i 0,.i 0,.i 0,.i 0,.i 0])]) 0 10 hS rfl rfl rfl fun H hS=>?_
 refine Ws ?_
 refine Sq ?_
 refine Sq ?_
 refine Rg 2 ?_
 refine Om (.i r1.1.2) ?_
 refine Oi (.b (r1.1.2 != 0)) ?_
 refine Ni ?_
 refine Ws ?_
 rcases bft (r1.1.2 != 0) with hb2 | hb2
 ·replace hM:=ifT hM hb2
  refine Ct hb2 ?_
  refine Sq ?_
  refine Rg 5 ?_
  refine zbE (cs:=[.i 0,.i 0,.i 0,.i 0,.i 0,.i 0]) (by decide) zcU zqo rfl ?_
  refine Om (.i r1.1.2) ?_
  refine Oa (.v (.pointer none)) ?_
  refine zaE (v:=.agg [.i 0,.i 0,.i 0,.i 0,.i 0,.i 0]) (ns:=[.i 0,.i 0,.i 0,.i 0,.i 0,.i 0]) (L':=[(g+5+0,.cells (Spot_.cells r1.2)),(g+3,.cells [.i 0,.i 0,.i 0,.i 0,.i 0,.i 0])]) 1 hS rfl rfl .no rfl rfl zel nlb rfl fun H hS=>?_
  refine Oa (.i r1.1.2) ?_
  refine Ni ?_
  replace hS:=hS.keep (L':=[(g+3,.cells [.i 0,.i 0,.i 0,.i 0,.i 0,.i 0])]) [false,true] rfl
  refine Ws ?_
  refine za0 ?_
  refine zan ?_
  exact nomatch congrArg (fun o=>(o.map (fun x:Option Wheel_×Spot_×Int=>x.1.isSome)).getD true) hM
 ·replace hM:=ifF hM hb2
  refine Cf hb2 ?_
  refine zaD ?_
  refine Ws ?_
  refine Sq ?_
  have hS0:=hS
  refine zcJ (n:=9) rfl (by kernel_rfl) ?_
  refine Olg (.agg (Wheel.cells r1.1.1.Wheel)) zcZ ?_
  refine Om (fnB a2) ?_
  refine zls (kv:=zap) hS (by decide) zjr (by omega) fun H hS=>?_
  refine zbE (cs:=(zby r1.1.1 a2 (g+5+1+9+2+2))) (by decide) zmK zqu rfl ?_
  refine zcE (v:=.agg (zby r1.1.1 a2 (g+5+1+9+2+2))) (cs:=(zby r1.1.1 a2 (g+5+1+9+2+2))) hS (by decide) rfl rfl (by omega) fun H hS=>?_
  refine zaO (v:=.agg (Spot_.cells r1.2)) 2 hS (by decide) rfl rfl (.st hS0 0 rfl (by omega)) (pg zcj) ?_
  refine Oa (.ptr (g+5+1+9+2+4) 0) ?_
  refine zaE (v:=.agg (Spot_.cells r1.2)) (ns:=(Spot_.cells r1.2)) (L':=[(g+5+1+9+2+4,.cells (zby r1.1.1 a2 (g+5+1+9+2+2))),(g+5+1+9+2+2,.obj none (zae (mpv zap ([]:List (Spot_×Int))))),(g+5+0,.cells (Spot_.cells r1.2)),(g+3,.cells (Spot_.cells r1.2))]) 3 hS rfl rfl (.st hS0 1 rfl (by omega)) rfl rfl zel nlb rfl fun H hS=>?_
  refine Oa (.i 0) ?_
  refine Ni ?_
  refine za6 (L':=[(g+5+1+9+2+2,.obj none (zae (mpv zap ([]:List (Spot_×Int))))),(g+5+0,.cells (Spot_.cells r1.2)),(g+3,.cells (Spot_.cells r1.2))]) 0 6 hS rfl rfl rfl fun H hS=>?_
  replace hS:=hS.keep (L':=[(g+5+1+9+2+2,.obj none (zae (mpv zap ([]:List (Spot_×Int))))),(g+3,.cells (Spot_.cells r1.2))]) [true,false,true] rfl
  refine Ws ?_
  refine za0 ?_
  injection hM with hM
  injection hM with hm1 hm2
  injection hm1 with hm1
  subst hm1 hm2
  exact zv0 (x:=.tup [.ep (zby r1.1.1 a2 (g+5+1+9+2+2)),.agg (Spot_.cells r1.2),.i 0]) (mk:=fun i=>.tup [.ep (zby r1.1.1 a2 i),.agg (Spot_.cells r1.2),.i 0]) 0 (.inr rfl) (zgo (zaf (x:=.ep (zby r1.1.1 a2 (g+5+1+9+2+2))) rfl) (zd3 (x:=.agg (Spot_.cells r1.2)) 1 hS rfl rfl (pg zcj)) (zaf (x:=.i 0) rfl)) (.refl _) hS rfl rfl (by omega)
theorem zgz {n:Nat} {a0:Wheel_} {a1:Spot_} {a2:Int} {a3:Bool} {r:Spot_×Int} (hM:zco n a0 a1 a2 a3=some r):zaR Try.prog 143 [.agg (Wheel.cells a0.Wheel),.agg (Spot_.cells a1),.i a2,.b a3] (.tup [.agg [.i r.1.left.c0,.i r.1.left.c1,.i r.1.left.c2,.i r.1.left.c3,.i r.1.place,.i r.1.credit],.i r.2]):=by
 refine zau mixed Try.func143 rfl (by decide) Try.ntmps143 (by simp) ?pure fun H0 g hf=>?_
 case pure=>exact .tup _ (zac (.agg _ (zac (.v _) (zac (.v _) (zac (.v _) (zac (.v _) (zac (.v _) (zac (.v _) zaQ))))))) (zac (.v _) zaQ))
 rw [zam]
 change wpA _ _ _ _ (Fr.of [(0,.agg (Wheel.cells a0.Wheel)),(1,.agg (Spot_.cells a1)),(2,.i a2),(3,.b a3)]) H0 g
 have hS:=St.start hf
 refine Sq ?_
 refine Rg 4 ?_
 refine zcE (v:=.agg (Wheel.cells a0.Wheel)) (cs:=(Wheel.cells a0.Wheel)) hS (by decide) rfl rfl (by omega) fun H hS=>?_
 refine zcE (v:=.agg (Spot_.cells a1)) (cs:=(Spot_.cells a1)) hS (by decide) rfl rfl (by omega) fun H hS=>?_
 refine zba hS (by decide) zcU (by omega) fun H hS=>?_
 refine Oa (.i 0) ?_
 refine Ni ?_
 refine za6 (L':=[(g+2,.cells [.i 0,.i 0,.i 0,.i 0,.i 0,.i 0]),(g+1,.cells (Spot_.cells a1))]) 2 4 hS rfl rfl rfl fun H hS=>?_
 refine Ws ?_
 refine za2 (J:=Int×Int×Int×Int×Int×Int) (fun j=>[(2,.i a2),(4,.ep (Wheel.cells a0.Wheel)),(5,.ptr (g+1) 0),(8,.ptr (g+2) 0)]) (fun j H' g'=>St (·<g) H0 [(g+2,.cells [.i 0,.i 0,.i 0,.i 0,.i 0,.i 0]),(g+1,.cells [.i j.1,.i j.2.1,.i j.2.2.1,.i j.2.2.2.1,.i j.2.2.2.2.1,.i j.2.2.2.2.2])] H' g'/\zbx n a0 a2 j.1 j.2.1 j.2.2.1 j.2.2.2.1 j.2.2.2.2.1 j.2.2.2.2.2=some r) ?_ ?_
 ·rintro ⟨v1,v2,v3,v4,v5,v6⟩ H g1 ⟨hS,hM⟩
  change wpA _ _ _ _ (Fr.of [(2,.i a2),(4,.ep (Wheel.cells a0.Wheel)),(5,.ptr (g+1) 0),(8,.ptr (g+2) 0)]) _ _
  replace hS:St (·<g) H0 [(g+2,.cells [.i 0,.i 0,.i 0,.i 0,.i 0,.i 0]),(g+1,.cells [.i v1,.i v2,.i v3,.i v4,.i v5,.i v6])] H g1:=hS
  replace hM:zbx n a0 a2 v1 v2 v3 v4 v5 v6=some r:=hM
  refine Sq ?_
  have hS0:=hS
  refine zcJ (n:=15) rfl (by kernel_rfl) ?_
  refine Olg (.agg (Wheel.cells a0.Wheel)) zcZ ?_
  refine zao (by decide) zig rfl ?_
  refine zaO (v:=.i v5) 1 hS (by decide) rfl rfl (.st hS0 1 rfl (by omega)) (po zag zas) ?_
  refine Of ((Wheel.cells a0.Wheel)) zcV ?_
  refine Of ((Wheel.cells a0.Wheel)) zb8 ?_
  refine Olp (.sl .no 1 (a0.Wheel.Coins.map cI)) zaC zaW ?_
  refine Om (.i a2) ?_
  obtain ⟨x7,hx7,hM⟩:=zak hM
  refine zbb (xs:=a0.Wheel.Coins) (f:=cI) (z:=a2) (u:=x7) (by decide) rfl rfl zaJ hx7 ?_
  refine Olp (.i x7) zag zas ?_
  obtain ⟨r8,hr8,hM⟩:=zak hM
  refine zaK (bs:=[.agg (Wheel.cells a0.Wheel),.i v5,.i x7]) (by decide) rfl rfl ((zgS hr8).le (.k (.k (.k .nil)))) ?_
  refine Om (.tup [.i r8.1,.i r8.2]) ?_
  refine Ox (.i r8.1) ?_
  refine Ox (.i r8.2) ?_
  refine Oa (.i r8.1) ?_
  refine Oa (.i r8.2) ?_
  refine Ni ?_
  refine Ws ?_
  refine Sq ?_
  refine Rg 8 ?_
  refine Om (.i a2) ?_
  refine zao (by decide) zg6 rfl ?_
  obtain ⟨x9,hx9,hM⟩:=zak hM
  refine zfF (z:=a2) (by decide) rfl rfl zjm (zeB hx9) ?_
  refine zlr (xs:=([v1,v2,v3,v4]:List Int)) (z:=a2) (u:=x9) (off:=0+0) 1 hS (by decide) rfl rfl .no rfl hx9 zag zas ?_
  refine Oi (.i (w64 (x9-1))) ?_
  refine zao (by decide) zg6 rfl ?_
  obtain ⟨x10,hx10,hM⟩:=zak hM
  refine zfF (z:=a2) (by decide) rfl rfl zjm (zeB hx10) ?_
  obtain ⟨l11,hl11,hM⟩:=zak hM
  refine zjf (xs:=([v1,v2,v3,v4]:List Int)) (u:=l11) (z:=a2) (v:=(w64 (x9-1))) (off:=0+0) (cs':=[.i (l11.getD 0 0),.i (l11.getD 1 0),.i (l11.getD 2 0),.i (l11.getD 3 0),.i v5,.i v6]) (L':=[(g+2,.cells [.i 0,.i 0,.i 0,.i 0,.i 0,.i 0]),(g+1,.cells [.i (l11.getD 0 0),.i (l11.getD 1 0),.i (l11.getD 2 0),.i (l11.getD 3 0),.i v5,.i v6])]) 1 hS rfl rfl .no rfl rfl hl11 zdt rfl rfl fun H hS=>?_
  refine Ni ?_
  refine Ws ?_
  refine Sq ?_
  refine Rg 9 ?_
  refine Om (.i r8.1) ?_
  refine zao (by decide) zft rfl ?_
  refine zaO (v:=.i v6) 1 hS (by decide) rfl rfl .no (po zag zas) ?_
  refine Om (.i r8.2) ?_
  refine Oi (.i (w64 (v6+r8.2))) ?_
  refine zao (by decide) zig rfl ?_
  refine zaE (v:=.i r8.1) (ns:=[.i r8.1]) (L':=[(g+2,.cells [.i 0,.i 0,.i 0,.i 0,.i 0,.i 0]),(g+1,.cells [.i (l11.getD 0 0),.i (l11.getD 1 0),.i (l11.getD 2 0),.i (l11.getD 3 0),.i r8.1,.i v6])]) 1 hS rfl rfl .no rfl rfl zdt nlb rfl fun H hS=>?_
  refine zao (by decide) zft rfl ?_
  refine zaE (v:=.i (w64 (v6+r8.2))) (ns:=[.i (w64 (v6+r8.2))]) (L':=[(g+2,.cells [.i 0,.i 0,.i 0,.i 0,.i 0,.i 0]),(g+1,.cells [.i (l11.getD 0 0),.i (l11.getD 1 0),.i (l11.getD 2 0),.i (l11.getD 3 0),.i r8.1,.i (w64 (v6+r8.2))])]) 1 hS rfl rfl .no rfl rfl zdt nlb rfl fun H hS=>?_
  refine Ni ?_
  refine Ws ?_
  refine Sq ?_
  refine Rg 4 ?_
  refine zaO (v:=.agg [.i (l11.getD 0 0),.i (l11.getD 1 0),.i (l11.getD 2 0),.i (l11.getD 3 0),.i r8.1,.i (w64 (v6+r8.2))]) 1 hS (by decide) rfl rfl .no (pg zcj) ?_
  refine Om (.i r8.2) ?_
  refine zaE (v:=.agg [.i (l11.getD 0 0),.i (l11.getD 1 0),.i (l11.getD 2 0),.i (l11.getD 3 0),.i r8.1,.i (w64 (v6+r8.2))]) (ns:=[.i (l11.getD 0 0),.i (l11.getD 1 0),.i (l11.getD 2 0),.i (l11.getD 3 0),.i r8.1,.i (w64 (v6+r8.2))]) (L':=[(g+2,.cells [.i (l11.getD 0 0),.i (l11.getD 1 0),.i (l11.getD 2 0),.i (l11.getD 3 0),.i r8.1,.i (w64 (v6+r8.2))]),(g+1,.cells [.i (l11.getD 0 0),.i (l11.getD 1 0),.i (l11.getD 2 0),.i (l11.getD 3 0),.i r8.1,.i (w64 (v6+r8.2))])]) 0 hS rfl rfl .no rfl rfl zel nlb rfl fun H hS=>?_
  refine Oa (.i r8.2) ?_
  refine Ni ?_
  replace hS:=hS.keep (L':=[(g+2,.cells [.i (l11.getD 0 0),.i (l11.getD 1 0),.i (l11.getD 2 0),.i (l11.getD 3 0),.i r8.1,.i (w64 (v6+r8.2))])]) [true,false] rfl
  refine Ws ?_
  refine za0 ?_
  refine za8 (x:=.tup [.agg [.i (l11.getD 0 0),.i (l11.getD 1 0),.i (l11.getD 2 0),.i (l11.getD 3 0),.i r8.1,.i (w64 (v6+r8.2))],.i r8.2]) (f:=fun r=>.tup [.agg [.i r.1.left.c0,.i r.1.left.c1,.i r.1.left.c2,.i r.1.left.c3,.i r.1.place,.i r.1.credit],.i r.2]) (.inr rfl) ?_ (.refl _) (Option.some.inj hM) hS
  exact (zcy (zd3 (x:=.agg [.i (l11.getD 0 0),.i (l11.getD 1 0),.i (l11.getD 2 0),.i (l11.getD 3 0),.i r8.1,.i (w64 (v6+r8.2))]) 0 hS rfl rfl (pg zcj)) (zaf (x:=.i r8.2) rfl))
 ·refine Sq ?_
  refine Rg 1 ?_
  refine Om (.b a3) ?_
  refine Ni ?_
  refine Ws ?_
  rcases bft a3 with hb12 | hb12
  ·replace hM:=ifT hM hb12
   refine Ct hb12 ?_
   refine Rg 7 ?_
   refine zao (by decide) zft rfl ?_
   refine zaO (v:=.i a1.credit) 1 hS (by decide) rfl rfl .no (po zag zas) ?_
   refine Oi (.i (w64 (a1.credit-1))) ?_
   refine zao (by decide) zig rfl ?_
   refine zaE (v:=.i 0) (ns:=[.i 0]) (L':=[(g+2,.cells [.i 0,.i 0,.i 0,.i 0,.i 0,.i 0]),(g+1,.cells [.i a1.left.c0,.i a1.left.c1,.i a1.left.c2,.i a1.left.c3,.i 0,.i a1.credit])]) 1 hS rfl rfl .no rfl rfl zdt nlb rfl fun H hS=>?_
   refine zao (by decide) zft rfl ?_
   refine zaE (v:=.i (w64 (a1.credit-1))) (ns:=[.i (w64 (a1.credit-1))]) (L':=[(g+2,.cells [.i 0,.i 0,.i 0,.i 0,.i 0,.i 0]),(g+1,.cells [.i a1.left.c0,.i a1.left.c1,.i a1.left.c2,.i a1.left.c3,.i 0,.i (w64 (a1.credit-1))])]) 1 hS rfl rfl .no rfl rfl zdt nlb rfl fun H hS=>?_
   refine Ni ?_
   exact zai (a1.left.c0,a1.left.c1,a1.left.c2,a1.left.c3,0,w64 (a1.credit-1)) (.k (.k (.k (.k .nil)))) ⟨(hS.keep [true,true] rfl).up (by omega),hM⟩
  ·replace hM:=ifF hM hb12
   refine Cf hb12 ?_
   refine zaD ?_
   exact zai (a1.left.c0,a1.left.c1,a1.left.c2,a1.left.c3,a1.place,a1.credit) (.k (.k (.k (.k .nil)))) ⟨(hS.keep [true,true] rfl).up (by omega),hM⟩
theorem ziT {S:Type} {Lo:S->BL} (hk:∀s s',zl7 (Lo s) (Lo s')) {m0:Nat} (hnd:∀s,(ids (Lo s)).Nodup) (hin:∀s,InB In (Lo s)) {aF:(List Int)->Spot_->Int->S->Option (Bool×S)} {f0:AV} (hF:∀s H,Has H (Lo s)->In H f0) (h0:cellsOf f0=some [f0]) (hf:∀{x0:List Int} {x1:Spot_} {x2:Int} {s:S} {r:Bool×S},aF x0 x1 x2 s=some r->zq4 Try.prog f0 [.sl .no 1 (x0.map cI),.agg (Spot_.cells x1),.i x2] (Lo s) (.b r.1) (Lo r.2)) {n:Nat} {a0:Wheel_×Bool} {a1:Spot_} {st:S} {r:Unit×S} (hM:zfs n aF a0 a1 st=some r):zkE Try.prog 108 [.ep (zby a0.1 a0.2 m0),.agg (Spot_.cells a1),f0] (Lo st) (.tup []) (Lo r.2):=by
 have hnd0:∀s,(ids (Lo s)).Nodup:=fun s=>hnd s
 refine zdX mixed Try.func108 rfl (by decide) Try.ntmps108 (by simp) (hk _ _) (hnd st) ?pure ?cells fun H0 g hf_ hp=>?_
 case pure=>exact fun H _=>(show Go.AM.Pure _ from .tup _ zaQ).inH
 case cells=>exact hin _
 rw [zam]
 change wpA _ _ _ _ (Fr.of [(0,.ep (zby a0.1 a0.2 m0)),(1,.agg (Spot_.cells a1)),(2,f0)]) H0 g
 have hS:=St.startH (L:=([]++Lo st)) hf_ (hnd st) hp
 replace hS:St (fun i=>i<g/\i∉ids (Lo st)) H0 ([]++Lo st) H0 g:=hS
 refine Sq ?_
 refine Rg 1 ?_
 refine zcE (v:=.agg (Spot_.cells a1)) (cs:=(Spot_.cells a1)) hS (by decide) rfl rfl (by omega) fun H hS=>?_
 refine Ni ?_
 refine za6 (L':=([]++Lo st)) 0 4 hS rfl rfl rfl fun H hS=>?_
 refine Ws ?_
 refine Sq ?_
 refine Rg 8 ?_
 refine Om (.ep (zby a0.1 a0.2 m0)) ?_
 refine zmx (by decide) rfl ?_
 refine Of ((zby a0.1 a0.2 m0)) zj4 ?_
 refine Of ((zby a0.1 a0.2 m0)) zcV ?_
 refine Of ((zby a0.1 a0.2 m0)) zb8 ?_
 refine Olp (.sl .no 1 (a0.1.Wheel.Coins.map cI)) zaC zaW ?_
 refine zct (n:=a0.1.Wheel.Coins.length) (by decide) rfl (List.length_map _) zaT ?_
 refine Om (.i 0) ?_
 refine Ni ?_
 refine Ws ?_
 refine zaG ?_
 refine zcx (V:=Int×Int×Int×Int×Int×S) (fun v=>[(0,.ep (zby a0.1 a0.2 m0)),(2,f0),(4,.ep [.i v.1,.i v.2.1,.i v.2.2.1,.i v.2.2.2.1,.i a1.place,.i a1.credit]),(17,.i (a0.1.Wheel.Coins.length:Int)),(18,.i v.2.2.2.2.1)]) (fun v m2 H' g'=>St (fun i=>i<g/\i∉ids (Lo st)) H0 ([]++Lo v.2.2.2.2.2) H' g'/\zaX n a0 a1 aF m2 v.1 v.2.1 v.2.2.1 v.2.2.2.1 v.2.2.2.2.1 v.2.2.2.2.2=some r) (n:=n) (a1.left.c0,a1.left.c1,a1.left.c2,a1.left.c3,0,st) (.k (.k (.k (.k (.k .nil))))) ⟨(hS.keep [] rfl).up (by omega),hM⟩ ?_
 rintro ⟨v2,v3,v4,v5,v6,v7⟩ m2 H g2 ⟨hS,hM⟩
 obtain _ | m2:=m2
 ·exact nomatch (show none=some _ from hM)
 change wpA _ _ _ _ (Fr.of [(0,.ep (zby a0.1 a0.2 m0)),(2,f0),(4,.ep [.i v2,.i v3,.i v4,.i v5,.i a1.place,.i a1.credit]),(17,.i (a0.1.Wheel.Coins.length:Int)),(18,.i v6)]) _ _
 replace hS:St (fun i=>i<g/\i∉ids (Lo st)) H0 ([]++Lo v7) H g2:=hS
 replace hM:zc2 n a0 a1 aF (zaX n a0 a1 aF m2) v2 v3 v4 v5 v6 v7=some r:=hM
 refine Sq ?_
 refine Rg 1 ?_
 refine Oi (.b (decide (v6<(a0.1.Wheel.Coins.length:Int)))) ?_
 refine Ni ?_
 refine Ws ?_
 refine Sq ?_
 rcases bft (decide (v6<(a0.1.Wheel.Coins.length:Int))) with hb8 | hb8
 ·replace hM:=ifT hM hb8
  refine Ct hb8 ?_
  refine zaD ?_
  refine Ws ?_
  refine za2 (J:=S) (fun j=>[(0,.ep (zby a0.1 a0.2 m0)),(2,f0),(4,.ep [.i v2,.i v3,.i v4,.i v5,.i a1.place,.i a1.credit]),(17,.i (a0.1.Wheel.Coins.length:Int)),(18,.i v6)]) (fun j H' g'=>St (fun i=>i<g/\i∉ids (Lo st)) H0 ([]++Lo j) H' g'/\zbh (zaX n a0 a1 aF m2) v2 v3 v4 v5 v6 j=some r) ?_ ?_
  ·rintro v9 H g3 ⟨hS,hM⟩
   change wpA _ _ _ _ (Fr.of [(0,.ep (zby a0.1 a0.2 m0)),(2,f0),(4,.ep [.i v2,.i v3,.i v4,.i v5,.i a1.place,.i a1.credit]),(17,.i (a0.1.Wheel.Coins.length:Int)),(18,.i v6)]) _ _
   replace hS:St (fun i=>i<g/\i∉ids (Lo st)) H0 ([]++Lo v9) H g3:=hS
   replace hM:zbh (zaX n a0 a1 aF m2) v2 v3 v4 v5 v6 v9=some r:=hM
   refine Rg 2 ?_
   refine Oi (.i (w64 (v6+1))) ?_
   refine Om (.i (w64 (v6+1))) ?_
   refine Ni ?_
   exact zbn (v2,v3,v4,v5,w64 (v6+1),v9) (Nat.lt_succ_self _) (.k (.k (.k (.k (.k .nil))))) ⟨(hS.keep [] rfl).up (by omega),hM⟩
  ·refine zaG ?_
   refine Sq ?_
   refine Rg 2 ?_
   refine Om (.i v6) ?_
   refine Oa (.i v6) ?_
   refine Ni ?_
   refine Ws ?_
   refine Sq ?_
   refine Sq ?_
   refine Rg 5 ?_
   refine Om (.i v6) ?_
   refine Of ([.i v2,.i v3,.i v4,.i v5,.i a1.place,.i a1.credit]) zg6 ?_
   obtain ⟨x10,hx10,hM⟩:=zak hM
   refine zsY (cs:=[.i v2,.i v3,.i v4,.i v5,.i a1.place,.i a1.credit]) (z:=v6) (by decide) rfl rfl zjm (zeB hx10) ?_
   refine zpf (v:=.i x10) (by decide) rfl (zsZ (xs:=([v2,v3,v4,v5]:List Int)) zag zas rfl hx10) ?_
   refine Oi (.b (x10==0)) ?_
   refine Ni ?_
   refine Ws ?_
   rcases bft (x10==0) with hb11 | hb11
   ·replace hM:=ifT hM hb11
    refine Ct hb11 ?_
    refine zbX ?_
    refine zax ?_
    refine zaI ?_
    exact zai v7 (.k (.k (.k (.k (.k .nil))))) ⟨(hS.keep [] rfl).up (by omega),hM⟩
   ·replace hM:=ifF hM hb11
    refine Cf hb11 ?_
    refine zaD ?_
    refine Ws ?_
    refine Sq ?_
    refine Sq ?_
    have hS0:=hS
    refine zcJ (n:=13) rfl (by kernel_rfl) ?_
    refine Om (.ep (zby a0.1 a0.2 m0)) ?_
    refine zmx (by decide) rfl ?_
    refine Of ((zby a0.1 a0.2 m0)) zj4 ?_
    refine Olg (.agg (Wheel.cells a0.1.Wheel)) zcZ ?_
    refine Olg (.agg [.i v2,.i v3,.i v4,.i v5,.i a1.place,.i a1.credit]) zcj ?_
    refine Om (.i v6) ?_
    obtain ⟨r12,hr12,hM⟩:=zak hM
    refine zaK (bs:=[.agg (Wheel.cells a0.1.Wheel),.agg [.i v2,.i v3,.i v4,.i v5,.i a1.place,.i a1.credit],.i v6,.b false]) (by decide) rfl rfl ((zgz hr12).le (.k (.k (.k (.k .nil))))) ?_
    refine Om (.tup [.agg (Spot_.cells r12.1),.i r12.2]) ?_
    refine Ox (.agg (Spot_.cells r12.1)) ?_
    refine Ox (.i r12.2) ?_
    refine zba hS (by decide) zcU (by omega) fun H hS=>?_
    refine zaE (v:=.agg (Spot_.cells r12.1)) (ns:=(Spot_.cells r12.1)) (L':=([(g2+1+2+5+10,.cells (Spot_.cells r12.1))]++Lo v7)) 0 hS rfl rfl (.behind (by kernel_rfl)) rfl rfl zel nlb rfl fun H hS=>?_
    refine Oa (.i r12.2) ?_
    refine Ni ?_
    refine za6 (L':=([]++Lo v7)) 0 7 hS rfl rfl rfl fun H hS=>?_
    refine Ws ?_
    refine Sq ?_
    refine Rg 7 ?_
    refine Om (f0) ?_
    refine Om (.i v6) ?_
    refine zaZ (es:=[[.i v6]]) hS (by decide) zaJ zbT rfl zbJ rfl (by decide) (by omega) fun H hS=>?_
    refine Olg (.agg (Spot_.cells r12.1)) zcj ?_
    refine Om (.i r12.2) ?_
    obtain ⟨r13,hr13,hM⟩:=zak hM
    replace hS:St (fun i=>i<g/\i∉ids (Lo st)) H0 ([(g2+1+2+5+13+2,.row 3 1)]++Lo v7) _ _:=hS
    refine zlo (bs:=[.sl (.id (g2+1+2+5+13+2)) 1 (([v6]:List Int).map cI),.agg (Spot_.cells r12.1),.i r12.2]) (.inl rfl) hS (by decide) rfl rfl ((hf hr13).le (.cons (.sl _ _ _) (.k (.k .nil)))) (hk _ _).ids (by omega) fun H hS=>?_
    refine ze8 (e:=r13.1) (by decide) rfl ?_
    refine Ni ?_
    replace hS:=hS.keep (L':=([]++Lo r13.2)) [false] rfl
    refine Ws ?_
    rcases bft (!r13.1) with hb14 | hb14
    ·replace hM:=ifT hM hb14
     refine Ct hb14 ?_
     refine za0 ?_
     refine zan ?_
     refine za5 ?_
     refine zcG ?_
     refine zbY ?_
     refine za5 ?_
     refine zfL (x:=.tup []) (f:=fun r=>.tup []) (fd:=fun r=>(Lo r.2)) (.inr rfl) ?_ (.refl _) (Option.some.inj hM) hS 0 rfl
     exact rfl
    ·replace hM:=ifF hM hb14
     refine Cf hb14 ?_
     refine zaD ?_
     refine Ws ?_
     refine Sq ?_
     refine za2 (J:=Bool) (fun j=>[(0,.ep (zby a0.1 a0.2 m0)),(2,f0),(4,.ep [.i v2,.i v3,.i v4,.i v5,.i a1.place,.i a1.credit]),(6,.i v6),(17,.i (a0.1.Wheel.Coins.length:Int)),(18,.i v6),(50,.b j)]) (fun j H' g'=>St (fun i=>i<g/\i∉ids (Lo st)) H0 ([]++Lo r13.2) H' g'/\za9 n (zaX n a0 a1 aF m2) a0 a1 aF v2 v3 v4 v5 v6 r13 j=some r) ?_ ?_
     ·rintro v15 H g4 ⟨hS,hM⟩
      change wpA _ _ _ _ (Fr.of [(0,.ep (zby a0.1 a0.2 m0)),(2,f0),(4,.ep [.i v2,.i v3,.i v4,.i v5,.i a1.place,.i a1.credit]),(6,.i v6),(17,.i (a0.1.Wheel.Coins.length:Int)),(18,.i v6),(50,.b v15)]) _ _
      replace hS:St (fun i=>i<g/\i∉ids (Lo st)) H0 ([]++Lo r13.2) H g4:=hS
      replace hM:za9 n (zaX n a0 a1 aF m2) a0 a1 aF v2 v3 v4 v5 v6 r13 v15=some r:=hM
      rcases bft v15 with hb16 | hb16
      ·replace hM:=ifT hM hb16
       refine Ct hb16 ?_
       refine zbX ?_
       refine zax ?_
       refine zaI ?_
       exact zai r13.2 (.k (.k (.k (.k (.k .nil))))) ⟨(hS.keep [] rfl).up (by omega),hM⟩
      ·replace hM:=ifF hM hb16
       refine Cf hb16 ?_
       refine zaD ?_
       refine Ws ?_
       refine Sq ?_
       have hS0:=hS
       refine zcJ (n:=13) rfl (by kernel_rfl) ?_
       refine Om (.ep (zby a0.1 a0.2 m0)) ?_
       refine zmx (by decide) rfl ?_
       refine Of ((zby a0.1 a0.2 m0)) zj4 ?_
       refine Olg (.agg (Wheel.cells a0.1.Wheel)) zcZ ?_
       refine Olg (.agg [.i v2,.i v3,.i v4,.i v5,.i a1.place,.i a1.credit]) zcj ?_
       refine Om (.i v6) ?_
       obtain ⟨r17,hr17,hM⟩:=zak hM
       refine zaK (bs:=[.agg (Wheel.cells a0.1.Wheel),.agg [.i v2,.i v3,.i v4,.i v5,.i a1.place,.i a1.credit],.i v6,.b true]) (by decide) rfl rfl ((zgz hr17).le (.k (.k (.k (.k .nil))))) ?_
       refine Om (.tup [.agg (Spot_.cells r17.1),.i r17.2]) ?_
       refine Ox (.agg (Spot_.cells r17.1)) ?_
       refine Ox (.i r17.2) ?_
       refine zba hS (by decide) zcU (by omega) fun H hS=>?_
       refine zaE (v:=.agg (Spot_.cells r17.1)) (ns:=(Spot_.cells r17.1)) (L':=([(g4+10,.cells (Spot_.cells r17.1))]++Lo r13.2)) 0 hS rfl rfl (.behind (by kernel_rfl)) rfl rfl zel nlb rfl fun H hS=>?_
       refine Oa (.i r17.2) ?_
       refine Ni ?_
       refine za6 (L':=([]++Lo r13.2)) 0 9 hS rfl rfl rfl fun H hS=>?_
       refine Ws ?_
       refine Sq ?_
       refine Rg 7 ?_
       refine Om (f0) ?_
       refine Om (.i v6) ?_
       refine zaZ (es:=[[.i (-1)],[.i v6]]) hS (by decide) zaJ zbT rfl zbJ rfl (by decide) (by omega) fun H hS=>?_
       refine Olg (.agg (Spot_.cells r17.1)) zcj ?_
       refine Om (.i r17.2) ?_
       obtain ⟨r18,hr18,hM⟩:=zak hM
       replace hS:St (fun i=>i<g/\i∉ids (Lo st)) H0 ([(g4+13+2,.row 3 2)]++Lo r13.2) _ _:=hS
       refine zlo (bs:=[.sl (.id (g4+13+2)) 1 (([(-1),v6]:List Int).map cI),.agg (Spot_.cells r17.1),.i r17.2]) (.inl rfl) hS (by decide) rfl rfl ((hf hr18).le (.cons (.sl _ _ _) (.k (.k .nil)))) (hk _ _).ids (by omega) fun H hS=>?_
       refine ze8 (e:=r18.1) (by decide) rfl ?_
       refine Ni ?_
       replace hS:=hS.keep (L':=([]++Lo r18.2)) [false] rfl
       refine Ws ?_
       rcases bft (!r18.1) with hb19 | hb19
       ·replace hM:=ifT hM hb19
        refine Ct hb19 ?_
        refine za0 ?_
        refine za5 ?_
        refine zcG ?_
        refine zbY ?_
        refine za5 ?_
        refine zfL (x:=.tup []) (f:=fun r=>.tup []) (fd:=fun r=>(Lo r.2)) (.inr rfl) ?_ (.refl _) (Option.some.inj hM) hS 0 rfl
        exact rfl
       ·replace hM:=ifF hM hb19
        refine Cf hb19 ?_
        refine zaD ?_
        refine zaw ?_
        exact zai r18.2 (.k (.k (.k (.k (.k .nil))))) ⟨(hS.keep [] rfl).up (by omega),hM⟩
     ·refine Rg 8 ?_
      refine Of ([.i v2,.i v3,.i v4,.i v5,.i a1.place,.i a1.credit]) zft ?_
      refine Olp (.i a1.credit) zag zas ?_
      refine Oi (.b (a1.credit==0)) ?_
      refine Om (.b (a1.credit==0)) ?_
      rcases bft (a1.credit==0) with hb20 | hb20
      ·replace hM:=ifT hM hb20
       refine On (want:=false) hb20 ?_
       refine On (want:=false) hb20 ?_
       refine On (want:=false) hb20 ?_
       refine Pt (.b true) hb20 ?_
       refine Ni ?_
       exact zai true (.k (.k (.k (.k (.k (.k (.k .nil))))))) ⟨(hS.keep [] rfl).up (by omega),hM⟩
      ·replace hM:=ifF hM hb20
       refine Oy (want:=false) hb20 ?_
       refine Of ([.i v2,.i v3,.i v4,.i v5,.i a1.place,.i a1.credit]) zig ?_
       refine Oy (want:=false) hb20 ?_
       refine Olp (.i a1.place) zag zas ?_
       refine Oy (want:=false) hb20 ?_
       refine Oi (.b (a1.place==0)) ?_
       refine Pf (.b (a1.place==0)) hb20 ?_
       refine Ni ?_
       exact zai (a1.place==0) (.k (.k (.k (.k (.k (.k (.k .nil))))))) ⟨(hS.keep [] rfl).up (by omega),hM⟩
 ·replace hM:=ifF hM hb8
  refine Cf hb8 ?_
  refine zbX ?_
  refine zax ?_
  refine zaA ?_
  refine zaI ?_
  refine zfL (x:=.tup []) (f:=fun r=>.tup []) (fd:=fun r=>(Lo r.2)) (.inl rfl) ?_ (.refl _) (Option.some.inj hM) hS 0 rfl
  exact rfl
theorem zhA {p1 p2 p3:Nat} (hnd:[p1,p2,p3].Nodup) {rec:(Wheel_×Bool)->Spot_->(List (Spot_×Int))->Option (Int×(List (Spot_×Int)))} (hrec:∀{a0:Wheel_×Bool} {a1:Spot_} {st:List (Spot_×Int)} {r:Int×(List (Spot_×Int))},rec a0 a1 st=some r->zkE Try.prog 79 [.ep (zby a0.1 a0.2 p3),.agg (Spot_.cells a1)] [(p3,.obj none (zae (mpv zap st)))] (.i r.1) [(p3,.obj none (zae (mpv zap r.2)))]) {a0:List Int} {a1:Spot_} {a2:Int} {a3:Wheel_×Bool} {st:Bool×Int×(List (Spot_×Int))} {r:Bool×(Bool×Int×(List (Spot_×Int)))} (hM:zcb rec a0 a1 a2 a3 st=some r):zkE Try.prog 109 [.sl .no 1 (a0.map cI),.agg (Spot_.cells a1),.i a2,.ep [.ep (zby a3.1 a3.2 p3)],.ptr p1 0,.ptr p2 0] [(p1,.cells [.b st.1]),(p2,.cells [.i st.2.1]),(p3,.obj none (zae (mpv zap st.2.2)))] (.b r.1) [(p1,.cells [.b r.2.1]),(p2,.cells [.i r.2.2.1]),(p3,.obj none (zae (mpv zap r.2.2.2)))]:=by
 refine zdX mixed Try.func109 rfl (by decide) Try.ntmps109 (by simp) (zgb (zgb (zs0 zhS))) hnd ?pure ?cells fun H0 g hf_ hp=>?_
 case pure=>exact fun H _=>(show Go.AM.Pure _ from .v _).inH
 case cells=>exact (zkr (zf7 (zcz (.inl (.inl (.v _))) zja) (zf7 (zcz (.inl (.inl (.v _))) zja) (zs1 zkq))) zgp)
 rw [zam]
 change wpA _ _ _ _ (Fr.of [(0,.sl .no 1 (a0.map cI)),(1,.agg (Spot_.cells a1)),(2,.i a2),(3,.ep [.ep (zby a3.1 a3.2 p3)]),(4,.ptr p1 0),(5,.ptr p2 0)]) H0 g
 have hS:=St.startH (L:=[(p1,.cells [.b st.1]),(p2,.cells [.i st.2.1]),(p3,.obj none (zae (mpv zap st.2.2)))]) hf_ hnd hp
 replace hS:St (fun i=>i<g/\i∉ids [(p1,.cells [.b st.1]),(p2,.cells [.i st.2.1]),(p3,.obj none (zae (mpv zap st.2.2)))]) H0 [(p1,.cells [.b st.1]),(p2,.cells [.i st.2.1]),(p3,.obj none (zae (mpv zap st.2.2)))] H0 g:=hS
 refine Sq ?_
 refine Rg 2 ?_
 refine zcE (v:=.agg (Spot_.cells a1)) (cs:=(Spot_.cells a1)) hS (by decide) rfl rfl (by omega) fun H hS=>?_
 refine Oa (.b false) ?_
 refine Ni ?_
 refine za6 (L':=[(p1,.cells [.b st.1]),(p2,.cells [.i st.2.1]),(p3,.obj none (zae (mpv zap st.2.2)))]) 0 7 hS rfl rfl rfl fun H hS=>?_
 refine Ws ?_
 refine za2 (J:=Bool×Int×(List (Spot_×Int))) (fun j=>[]) (fun j H' g'=>St (fun i=>i<g/\i∉ids [(p1,.cells [.b st.1]),(p2,.cells [.i st.2.1]),(p3,.obj none (zae (mpv zap st.2.2)))]) H0 [(p1,.cells [.b j.1]),(p2,.cells [.i j.2.1]),(p3,.obj none (zae (mpv zap j.2.2)))] H' g'/\zb5 j.1 j.2.1 j.2.2=some r) ?_ ?_
 ·rintro ⟨v1,v2,v3⟩ H g1 ⟨hS,hM⟩
  change wpA _ _ _ _ (Fr.of []) _ _
  replace hS:St (fun i=>i<g/\i∉ids [(p1,.cells [.b st.1]),(p2,.cells [.i st.2.1]),(p3,.obj none (zae (mpv zap st.2.2)))]) H0 [(p1,.cells [.b v1]),(p2,.cells [.i v2]),(p3,.obj none (zae (mpv zap v3)))] H g1:=hS
  replace hM:zb5 v1 v2 v3=some r:=hM
  refine Sq ?_
  refine Rg 1 ?_
  refine Oa (.b true) ?_
  refine Ni ?_
  refine Ws ?_
  refine za0 ?_
  refine zfL (x:=.b true) (f:=fun r=>.b r.1) (fd:=fun r=>[(p1,.cells [.b r.2.1]),(p2,.cells [.i r.2.2.1]),(p3,.obj none (zae (mpv zap r.2.2.2)))]) (.inr rfl) ?_ (.refl _) (Option.some.inj hM) hS 0 rfl
  exact (zaH (zaf (x:=.b true) rfl))
 ·refine Sq ?_
  refine Rg 6 ?_
  refine Om (.i a2) ?_
  refine Olp (.ep (zby a3.1 a3.2 p3)) zhY zjl ?_
  refine Olg (.agg (Spot_.cells a1)) zcj ?_
  obtain ⟨r4,hr4,hM⟩:=zak hM
  have hndr4:=hS.nd_at (ns:=[2]) (M:=[(p3,.obj none (zae (mpv zap st.2.2)))]) (M':=[(p3,.obj none (zae (mpv zap r4.2)))]) (.cons rfl .nil) (by decide)
  refine zln (bs:=[.ep (zby a3.1 a3.2 p3),.agg (Spot_.cells a1)]) (M:=[(p3,.obj none (zae (mpv zap st.2.2)))]) (M':=[(p3,.obj none (zae (mpv zap r4.2)))]) (L':=[(p1,.cells [.b st.1]),(p2,.cells [.i st.2.1]),(p3,.obj none (zae (mpv zap r4.2)))]) [2] (.inl rfl) hS (by decide) rfl rfl ((hrec hr4).le (.k (.k .nil))) (.cons rfl .nil) rfl (by omega) fun H hS=>?_
  refine Oi (.i (w64 (a2+r4.1))) ?_
  refine Oa (.i (w64 (a2+r4.1))) ?_
  refine Ni ?_
  refine Ws ?_
  refine za2 (J:=Bool) (fun j=>[(4,.ptr p1 0),(5,.ptr p2 0),(10,.i (w64 (a2+r4.1))),(25,.b j)]) (fun j H' g'=>St (fun i=>i<g/\i∉ids [(p1,.cells [.b st.1]),(p2,.cells [.i st.2.1]),(p3,.obj none (zae (mpv zap st.2.2)))]) H0 [(p1,.cells [.b st.1]),(p2,.cells [.i st.2.1]),(p3,.obj none (zae (mpv zap r4.2)))] H' g'/\zb6 a2 st r4 j=some r) ?_ ?_
  ·rintro v5 H g2 ⟨hS,hM⟩
   change wpA _ _ _ _ (Fr.of [(4,.ptr p1 0),(5,.ptr p2 0),(10,.i (w64 (a2+r4.1))),(25,.b v5)]) _ _
   replace hS:St (fun i=>i<g/\i∉ids [(p1,.cells [.b st.1]),(p2,.cells [.i st.2.1]),(p3,.obj none (zae (mpv zap st.2.2)))]) H0 [(p1,.cells [.b st.1]),(p2,.cells [.i st.2.1]),(p3,.obj none (zae (mpv zap r4.2)))] H g2:=hS
   replace hM:zb6 a2 st r4 v5=some r:=hM
   rcases bft v5 with hb6 | hb6
   ·replace hM:=ifT hM hb6
    refine Ct hb6 ?_
    refine Rg 3 ?_
    refine Om (.i (w64 (a2+r4.1))) ?_
    refine zaE (v:=.i (w64 (a2+r4.1))) (ns:=[.i (w64 (a2+r4.1))]) (L':=[(p1,.cells [.b st.1]),(p2,.cells [.i (w64 (a2+r4.1))]),(p3,.obj none (zae (mpv zap r4.2)))]) 1 hS rfl rfl .no rfl rfl zdt nlb rfl fun H hS=>?_
    refine zaE (v:=.b false) (ns:=[.b false]) (L':=[(p1,.cells [.b false]),(p2,.cells [.i (w64 (a2+r4.1))]),(p3,.obj none (zae (mpv zap r4.2)))]) 0 hS rfl rfl .no rfl rfl ztc nlb rfl fun H hS=>?_
    refine Ni ?_
    exact zai (false,w64 (a2+r4.1),r4.2) .nil ⟨(hS.keep [true,true,true] rfl).up (by omega),hM⟩
   ·replace hM:=ifF hM hb6
    refine Cf hb6 ?_
    refine zaD ?_
    exact zai (st.1,st.2.1,r4.2) .nil ⟨(hS.keep [true,true,true] rfl).up (by omega),hM⟩
  ·have hS0:=hS
   refine zcJ (n:=10) rfl (by kernel_rfl) ?_
   refine zaO (v:=.b st.1) 0 hS (by decide) rfl rfl (.st hS0 0 rfl (by omega)) (po zv3 zxt) ?_
   refine Om (.b st.1) ?_
   rcases bft st.1 with hb7 | hb7
   ·replace hM:=ifT hM hb7
    refine On (want:=false) hb7 ?_
    refine On (want:=false) hb7 ?_
    refine On (want:=false) hb7 ?_
    refine On (want:=false) hb7 ?_
    refine On (want:=false) hb7 ?_
    refine On (want:=false) hb7 ?_
    refine On (want:=false) hb7 ?_
    refine Pt (.b true) hb7 ?_
    refine Ni ?_
    exact zai true (.k (.k (.k (.k .nil)))) ⟨(hS.keep [true,true,true] rfl).up (by omega),hM⟩
   ·replace hM:=ifF hM hb7
    refine Oy (want:=false) hb7 ?_
    refine Olp (.ep (zby a3.1 a3.2 p3)) zhY zjl ?_
    refine Oy (want:=false) hb7 ?_
    refine zmx (by decide) rfl ?_
    refine Oy (want:=false) hb7 ?_
    refine Of ((zby a3.1 a3.2 p3)) zrP ?_
    refine Oy (want:=false) hb7 ?_
    refine Olp (fnB a3.2) ztj zuN ?_
    refine Oy (want:=false) hb7 ?_
    refine Om (.i (w64 (a2+r4.1))) ?_
    refine Oy (want:=false) hb7 ?_
    refine zaO (v:=.i st.2.1) 1 hS (by decide) rfl rfl (.st hS0 1 rfl (by omega)) (po zag zas) ?_
    refine Oy (want:=false) hb7 ?_
    obtain ⟨r8,hr8,hM⟩:=zak hM
    refine zaK (bs:=[.i (w64 (a2+r4.1)),.i st.2.1]) (by decide) rfl rfl ((zme hr8).le (.k (.k .nil))) ?_
    refine Pf (.b r8) hb7 ?_
    refine Ni ?_
    exact zai r8 (.k (.k (.k (.k .nil)))) ⟨(hS.keep [true,true,true] rfl).up (by omega),hM⟩
theorem zh4 {p1:Nat} (hnd:[p1].Nodup) {n:Nat} {rec:(Wheel_×Bool)->Spot_->(List (Spot_×Int))->Option (Int×(List (Spot_×Int)))} (hrec:∀{a0:Wheel_×Bool} {a1:Spot_} {st:(List (Spot_×Int))} {r:Int×(List (Spot_×Int))},rec a0 a1 st=some r->zkE Try.prog 79 [.ep (zby a0.1 a0.2 p1),.agg (Spot_.cells a1)] [(p1,.obj none (zae (mpv zap st)))] (.i r.1) [(p1,.obj none (zae (mpv zap r.2)))]) {a0:Wheel_×Bool} {a1:Spot_} {st:(List (Spot_×Int))} {r:Int×(List (Spot_×Int))} (hM:zcp n rec a0 a1 st=some r):zkE Try.prog 79 [.ep (zby a0.1 a0.2 p1),.agg (Spot_.cells a1)] [(p1,.obj none (zae (mpv zap st)))] (.i r.1) [(p1,.obj none (zae (mpv zap r.2)))]:=by
 refine zdX mixed Try.func79 rfl (by decide) Try.ntmps79 (by simp) (zs0 zhS) hnd ?pure ?cells fun H0 g hf_ hp=>?_
 case pure=>exact fun H _=>(show Go.AM.Pure _ from .v _).inH
 case cells=>exact (zkr (zs1 zkq) zgp)
 rw [zam]
 change wpA _ _ _ _ (Fr.of [(0,.ep (zby a0.1 a0.2 p1)),(1,.agg (Spot_.cells a1))]) H0 g
 have hS:=St.startH (L:=[(p1,.obj none (zae (mpv zap st)))]) hf_ hnd hp
 replace hS:St (fun i=>i<g/\i∉ids [(p1,.obj none (zae (mpv zap st)))]) H0 [(p1,.obj none (zae (mpv zap st)))] H0 g:=hS
 refine Sq ?_
 refine Rg 3 ?_
 refine zcE (v:=.ep (zby a0.1 a0.2 p1)) (cs:=[.ep (zby a0.1 a0.2 p1)]) hS (by decide) rfl rfl (by omega) fun H hS=>?_
 refine zcE (v:=.agg (Spot_.cells a1)) (cs:=(Spot_.cells a1)) hS (by decide) rfl rfl (by omega) fun H hS=>?_
 refine Oa (.i 0) ?_
 refine Ni ?_
 refine za6 (L':=[(g+1,.cells (Spot_.cells a1)),(p1,.obj none (zae (mpv zap st)))]) 1 2 hS rfl rfl rfl fun H hS=>?_
 refine Ws ?_
 refine Sq ?_
 refine Rg 1 ?_
 refine Oa (.i 0) ?_
 refine Ni ?_
 refine Ws ?_
 refine za2 (J:=Int×Int×Int×Int×Int) (fun j=>[(2,.ep [.ep (zby a0.1 a0.2 p1)]),(3,.ptr (g+1) 0),(5,.i j.1)]) (fun j H' g'=>St (fun i=>i<g/\i∉ids [(p1,.obj none (zae (mpv zap st)))]) H0 [(g+1,.cells [.i j.2.1,.i j.2.2.1,.i j.2.2.2.1,.i j.2.2.2.2,.i a1.place,.i a1.credit]),(p1,.obj none (zae (mpv zap st)))] H' g'/\zcd n rec a0 a1 st j.1 j.2.1 j.2.2.1 j.2.2.2.1 j.2.2.2.2=some r) ?_ ?_
 ·rintro ⟨v1,v2,v3,v4,v5⟩ H g1 ⟨hS,hM⟩
  change wpA _ _ _ _ (Fr.of [(2,.ep [.ep (zby a0.1 a0.2 p1)]),(3,.ptr (g+1) 0),(5,.i v1)]) _ _
  replace hS:St (fun i=>i<g/\i∉ids [(p1,.obj none (zae (mpv zap st)))]) H0 [(g+1,.cells [.i v2,.i v3,.i v4,.i v5,.i a1.place,.i a1.credit]),(p1,.obj none (zae (mpv zap st)))] H g1:=hS
  replace hM:zcd n rec a0 a1 st v1 v2 v3 v4 v5=some r:=hM
  refine Sq ?_
  refine Rg 6 ?_
  refine zao (by decide) zft rfl ?_
  refine zaO (v:=.i a1.credit) 0 hS (by decide) rfl rfl .no (po zag zas) ?_
  refine Om (.i v1) ?_
  refine zvP (v:=.i (min a1.credit v1)) (by decide) rfl ?_
  refine zao (by decide) zft rfl ?_
  refine zaE (v:=.i (min a1.credit v1)) (ns:=[.i (min a1.credit v1)]) (L':=[(g+1,.cells [.i v2,.i v3,.i v4,.i v5,.i a1.place,.i (min a1.credit v1)]),(p1,.obj none (zae (mpv zap st)))]) 0 hS rfl rfl .no rfl rfl zdt nlb rfl fun H hS=>?_
  refine Ni ?_
  refine Ws ?_
  refine Sq ?_
  refine Sq ?_
  have hS0:=hS
  refine zcJ (n:=11) rfl (by kernel_rfl) ?_
  refine Olp (.ep (zby a0.1 a0.2 p1)) zhY zjl ?_
  refine zmx (by decide) rfl ?_
  refine Of ((zby a0.1 a0.2 p1)) zmL ?_
  refine Olp (.mp p1) zoj zqs ?_
  refine zaO (v:=.agg [.i v2,.i v3,.i v4,.i v5,.i a1.place,.i (min a1.credit v1)]) 0 hS (by decide) rfl rfl (.st hS0 0 rfl (by omega)) (pg zcj) ?_
  obtain ⟨x6,hx6,hM⟩:=zak hM
  refine zrE (kv:=zap) (ok:=zhq) (M:=st) (k:=(⟨(⟨v2,v3,v4,v5⟩:Bag_),a1.place,(min a1.credit v1)⟩:Spot_)) (u:=x6) 1 ztw hS (by decide) rfl rfl rfl (.st hS0 1 rfl (by omega)) zjr zqt hx6 ?_
  refine Om (.tup [.i x6,.b (zbm st (⟨(⟨v2,v3,v4,v5⟩:Bag_),a1.place,(min a1.credit v1)⟩:Spot_))]) ?_
  refine Ox (.i x6) ?_
  refine Ox (.b (zbm st (⟨(⟨v2,v3,v4,v5⟩:Bag_),a1.place,(min a1.credit v1)⟩:Spot_))) ?_
  refine Oa (.i x6) ?_
  refine Oa (.b (zbm st (⟨(⟨v2,v3,v4,v5⟩:Bag_),a1.place,(min a1.credit v1)⟩:Spot_))) ?_
  refine Ni ?_
  refine Ws ?_
  refine za2 (J:=Bool) (fun j=>[(2,.ep [.ep (zby a0.1 a0.2 p1)]),(3,.ptr (g+1) 0),(8,.i x6),(39,.b j)]) (fun j H' g'=>St (fun i=>i<g/\i∉ids [(p1,.obj none (zae (mpv zap st)))]) H0 [(g+1,.cells [.i v2,.i v3,.i v4,.i v5,.i a1.place,.i (min a1.credit v1)]),(p1,.obj none (zae (mpv zap st)))] H' g'/\zcc n rec a0 a1 st v1 v2 v3 v4 v5 x6 j=some r) ?_ ?_
  ·rintro v7 H g2 ⟨hS,hM⟩
   change wpA _ _ _ _ (Fr.of [(2,.ep [.ep (zby a0.1 a0.2 p1)]),(3,.ptr (g+1) 0),(8,.i x6),(39,.b v7)]) _ _
   replace hS:St (fun i=>i<g/\i∉ids [(p1,.obj none (zae (mpv zap st)))]) H0 [(g+1,.cells [.i v2,.i v3,.i v4,.i v5,.i a1.place,.i (min a1.credit v1)]),(p1,.obj none (zae (mpv zap st)))] H g2:=hS
   replace hM:zcc n rec a0 a1 st v1 v2 v3 v4 v5 x6 v7=some r:=hM
   rcases bft v7 with hb8 | hb8
   ·replace hM:=ifT hM hb8
    refine Ct hb8 ?_
    refine Sq ?_
    refine Rg 2 ?_
    refine Om (.i x6) ?_
    refine Oa (.i x6) ?_
    refine Ni ?_
    replace hS:=hS.keep (L':=[(p1,.obj none (zae (mpv zap st)))]) [false,true] rfl
    refine Ws ?_
    refine za0 ?_
    refine zan ?_
    refine zfL (x:=.i x6) (f:=fun r=>.i r.1) (fd:=fun r=>[(p1,.obj none (zae (mpv zap r.2)))]) (.inr rfl) ?_ (.refl _) (Option.some.inj hM) hS 0 rfl
    exact (zaH (zaf (x:=.i x6) rfl))
   ·replace hM:=ifF hM hb8
    refine Cf hb8 ?_
    refine zaD ?_
    refine Ws ?_
    refine Sq ?_
    refine Rg 4 ?_
    refine zba hS (by decide) zuJ (by omega) fun H hS=>?_
    refine zba hS (by decide) zuK (by omega) fun H hS=>?_
    refine zaE (v:=.i 0) (ns:=[.i 0]) (L':=[(g2+1,.cells [.b false]),(g2+0,.cells [.i 0]),(g+1,.cells [.i v2,.i v3,.i v4,.i v5,.i a1.place,.i (min a1.credit v1)]),(p1,.obj none (zae (mpv zap st)))]) 1 hS rfl rfl .no rfl rfl zdt nlb rfl fun H hS=>?_
    refine zaE (v:=.b true) (ns:=[.b true]) (L':=[(g2+1,.cells [.b true]),(g2+0,.cells [.i 0]),(g+1,.cells [.i v2,.i v3,.i v4,.i v5,.i a1.place,.i (min a1.credit v1)]),(p1,.obj none (zae (mpv zap st)))]) 0 hS rfl rfl .no rfl rfl ztc nlb rfl fun H hS=>?_
    refine Ni ?_
    refine Ws ?_
    refine Sq ?_
    refine Rg 4 ?_
    refine Olp (.ep (zby a0.1 a0.2 p1)) zhY zjl ?_
    refine zaO (v:=.agg [.i v2,.i v3,.i v4,.i v5,.i a1.place,.i (min a1.credit v1)]) 2 hS (by decide) rfl rfl .no (pg zcj) ?_
    refine zer (first:=[]) (cap:=[.ep [.ep (zby a0.1 a0.2 p1)],.ptr (g2+1) 0,.ptr (g2+0) 0]) (by decide) rfl rfl ?_
    obtain ⟨r9,hr9,hM⟩:=zak hM
    have hndr9:=hS.nd_at (ns:=[0,1,3]) (M:=[(g2+1,.cells [.b true]),(g2+0,.cells [.i 0]),(p1,.obj none (zae (mpv zap st)))]) (M':=[(g2+1,.cells [.b r9.2.1]),(g2+0,.cells [.i r9.2.2.1]),(p1,.obj none (zae (mpv zap r9.2.2.2)))]) (.cons rfl (.cons rfl (.cons rfl .nil))) (by decide)
    have hncr9:=hS.nd_at (ns:=[0,1,3]) (M:=[(g2+1,.cells [.b true]),(g2+0,.cells [.i 0]),(p1,.obj none (zae (mpv zap st)))]) (M':=[(g2+1,.cells [.b r9.2.1]),(g2+0,.cells [.i r9.2.2.1]),(p1,.obj none (zae (mpv zap r9.2.2.2)))]) (.cons rfl (.cons rfl (.cons rfl .nil))) (by decide)
    refine zln (bs:=[.ep (zby a0.1 a0.2 p1),.agg [.i v2,.i v3,.i v4,.i v5,.i a1.place,.i (min a1.credit v1)],.fn (.func 109) [] [.ep [.ep (zby a0.1 a0.2 p1)],.ptr (g2+1) 0,.ptr (g2+0) 0]]) (M:=[(g2+1,.cells [.b true]),(g2+0,.cells [.i 0]),(p1,.obj none (zae (mpv zap st)))]) (M':=[(g2+1,.cells [.b r9.2.1]),(g2+0,.cells [.i r9.2.2.1]),(p1,.obj none (zae (mpv zap r9.2.2.2)))]) (L':=[(g2+1,.cells [.b r9.2.1]),(g2+0,.cells [.i r9.2.2.1]),(g+1,.cells [.i v2,.i v3,.i v4,.i v5,.i a1.place,.i (min a1.credit v1)]),(p1,.obj none (zae (mpv zap r9.2.2.2)))]) [0,1,3] (.inl rfl) hS (by decide) rfl rfl ((ziT (Lo:=(fun (s:Bool×Int×(List (Spot_×Int)))=>[(g2+1,.cells [.b s.1]),(g2+0,.cells [.i s.2.1]),(p1,.obj none (zae (mpv zap s.2.2)))]))  (fun _ _=>(zgb (zgb (zs0 zhS)))) (fun _=>hndr9) (fun s=>(zkr (zf7 (zcz (.inl (.inl (.v _))) zja) (zf7 (zcz (.inl (.inl (.v _))) zja) (zs1 zkq))) zgp)) (aF:=(fun (x0:List Int) (x1:Spot_) (x2:Int) s=>zcb rec x0 x1 x2 a0 s)) (fun s H hH=>(.fn _ _ _ zdU (zbI (.ep _ (zbI (.ep _ (zbI (show Go.AM.Pure _ from .v _).inH (zbI (show Go.AM.Pure _ from .sl _ _ (zaL (fun x=>(zac (.v _) zaQ)))).inH (zbI (show Go.AM.Pure _ from .sl _ _ (zaL (fun x=>(zac (.v _) zaQ)))).inH (zbI (show Go.AM.Pure _ from zqB _).inH (zbI (zA9 hH 2 rfl) zdU)))))) zdU)) (zbI (zn7 hH 0 rfl) (zbI (zn7 hH 1 rfl) zdU))))) rfl (fun h=>zlt (zhA (p1:=g2+1)  (p2:=g2+0)  (p3:=p1)  hncr9 hrec h)) hr9).le (.k (.k (.k .nil)))) (.cons rfl (.cons rfl (.cons rfl .nil))) rfl (by omega) fun H hS=>?_
    refine Ni ?_
    replace hS:=hS.keep (L':=[(g2+0,.cells [.i r9.2.2.1]),(g+1,.cells [.i v2,.i v3,.i v4,.i v5,.i a1.place,.i (min a1.credit v1)]),(p1,.obj none (zae (mpv zap r9.2.2.2)))]) [false,true,true,true] rfl
    refine Ws ?_
    refine Sq ?_
    have hS0:=hS
    refine zcJ (n:=7) rfl (by kernel_rfl) ?_
    refine Olp (.ep (zby a0.1 a0.2 p1)) zhY zjl ?_
    refine zmx (by decide) rfl ?_
    refine Of ((zby a0.1 a0.2 p1)) zmL ?_
    refine Olp (.mp p1) zoj zqs ?_
    refine zaO (v:=.agg [.i v2,.i v3,.i v4,.i v5,.i a1.place,.i (min a1.credit v1)]) 1 hS (by decide) rfl rfl (.st hS0 1 rfl (by omega)) (pg zcj) ?_
    refine zaO (v:=.i r9.2.2.1) 0 hS (by decide) rfl rfl (.st hS0 0 rfl (by omega)) (po zag zas) ?_
    obtain ⟨l10,hl10,hM⟩:=zak hM
    refine zpl (kv:=zap) (ok:=zhq) (M:=r9.2.2.2) (k:=(⟨(⟨v2,v3,v4,v5⟩:Bag_),a1.place,(min a1.credit v1)⟩:Spot_)) (v:=r9.2.2.1) (M':=l10) (L':=[(g2+0,.cells [.i r9.2.2.1]),(g+1,.cells [.i v2,.i v3,.i v4,.i v5,.i a1.place,.i (min a1.credit v1)]),(p1,.obj none (zae (mpv zap l10)))]) 2 ztw (.inr (by kernel_rfl)) hS rfl rfl rfl rfl zjr zqt hl10 rfl fun H hS=>?_
    refine Ni ?_
    replace hS:=hS.keep (L':=[(g2+0,.cells [.i r9.2.2.1]),(p1,.obj none (zae (mpv zap l10)))]) [true,false,true] rfl
    refine Ws ?_
    refine Sq ?_
    refine Rg 2 ?_
    refine zaO (v:=.i r9.2.2.1) 0 hS (by decide) rfl rfl .no (po zag zas) ?_
    refine Oa (.i r9.2.2.1) ?_
    refine Ni ?_
    replace hS:=hS.keep (L':=[(p1,.obj none (zae (mpv zap l10)))]) [false,true] rfl
    refine Ws ?_
    refine za0 ?_
    refine zfL (x:=.i r9.2.2.1) (f:=fun r=>.i r.1) (fd:=fun r=>[(p1,.obj none (zae (mpv zap r.2)))]) (.inr rfl) ?_ (.refl _) (Option.some.inj hM) hS 0 rfl
    exact (zaH (zaf (x:=.i r9.2.2.1) rfl))
  ·refine Rg 5 ?_
   refine Om (.b (zbm st (⟨(⟨v2,v3,v4,v5⟩:Bag_),a1.place,(min a1.credit v1)⟩:Spot_))) ?_
   refine Om (.b (zbm st (⟨(⟨v2,v3,v4,v5⟩:Bag_),a1.place,(min a1.credit v1)⟩:Spot_))) ?_
   rcases bft (zbm st (⟨(⟨v2,v3,v4,v5⟩:Bag_),a1.place,(min a1.credit v1)⟩:Spot_)) with hb11 | hb11
   ·replace hM:=ifT hM hb11
    refine On (want:=false) hb11 ?_
    refine On (want:=false) hb11 ?_
    refine Pt (.b true) hb11 ?_
    refine Ni ?_
    exact zai true (.k (.k (.k (.k .nil)))) ⟨(hS.keep [true,true] rfl).up (by omega),hM⟩
   ·replace hM:=ifF hM hb11
    refine Oy (want:=false) hb11 ?_
    refine Om (.i v1) ?_
    refine Oy (want:=false) hb11 ?_
    refine Oi (.b (v1==0)) ?_
    refine Pf (.b (v1==0)) hb11 ?_
    refine Ni ?_
    exact zai (v1==0) (.k (.k (.k (.k .nil)))) ⟨(hS.keep [true,true] rfl).up (by omega),hM⟩
 ·refine Sq ?_
  refine Rg 3 ?_
  refine zao (by decide) zg6 rfl ?_
  refine zaO (v:=.agg (Bag_.cells a1.left)) 0 hS (by decide) rfl rfl .no (pg zth) ?_
  refine Om (.i 0) ?_
  refine Ni ?_
  refine Ws ?_
  refine zaG ?_
  refine zcx (V:=Int×Int) (fun v=>[(2,.ep [.ep (zby a0.1 a0.2 p1)]),(3,.ptr (g+1) 0),(5,.i v.1),(13,.agg (Bag_.cells a1.left)),(14,.i v.2)]) (fun v m3 H' g'=>St (fun i=>i<g/\i∉ids [(p1,.obj none (zae (mpv zap st)))]) H0 [(g+1,.cells (Spot_.cells a1)),(p1,.obj none (zae (mpv zap st)))] H' g'/\zcL n rec a0 a1 st m3 v.1 v.2=some r) (n:=n) (0,0) (.k (.k (.k (.k (.k .nil))))) ⟨(hS.keep [true,true] rfl).up (by omega),hM⟩ ?_
  rintro ⟨v12,v13⟩ m3 H g3 ⟨hS,hM⟩
  obtain _ | m3:=m3
  ·exact nomatch (show none=some _ from hM)
  change wpA _ _ _ _ (Fr.of [(2,.ep [.ep (zby a0.1 a0.2 p1)]),(3,.ptr (g+1) 0),(5,.i v12),(13,.agg (Bag_.cells a1.left)),(14,.i v13)]) _ _
  replace hS:St (fun i=>i<g/\i∉ids [(p1,.obj none (zae (mpv zap st)))]) H0 [(g+1,.cells (Spot_.cells a1)),(p1,.obj none (zae (mpv zap st)))] H g3:=hS
  replace hM:zd2 n rec a0 a1 st (zcL n rec a0 a1 st m3) v12 v13=some r:=hM
  refine Sq ?_
  refine Rg 1 ?_
  refine Oi (.b (decide (v13<4))) ?_
  refine Ni ?_
  refine Ws ?_
  refine Sq ?_
  rcases bft (decide (v13<4)) with hb14 | hb14
  ·replace hM:=ifT hM hb14
   refine Ct hb14 ?_
   refine zaD ?_
   refine Ws ?_
   refine Sq ?_
   refine zaG ?_
   refine Sq ?_
   refine Rg 2 ?_
   obtain ⟨x15,hx15,hM⟩:=zak hM
   refine zm7 (v:=.i x15) (cs:=(Bag_.cells a1.left)) (z:=v13) (by decide) rfl rfl zti (zeB hx15).1 (zjY hx15) (zqb (xs:=([a1.left.c0,a1.left.c1,a1.left.c2,a1.left.c3]:List Int)) zag zas rfl hx15) ?_
   refine Oa (.i x15) ?_
   refine Ni ?_
   refine Ws ?_
   refine Rg 4 ?_
   refine Om (.i v12) ?_
   refine Om (.i x15) ?_
   refine Oi (.i (w64 (v12+x15))) ?_
   refine Oa (.i (w64 (v12+x15))) ?_
   refine Ni ?_
   refine zaw ?_
   refine Ws ?_
   refine Rg 2 ?_
   refine Oi (.i (w64 (v13+1))) ?_
   refine Om (.i (w64 (v13+1))) ?_
   refine Ni ?_
   exact zbn (w64 (v12+x15),w64 (v13+1)) (Nat.lt_succ_self _) (.k (.k (.k (.k (.k .nil))))) ⟨(hS.keep [true,true] rfl).up (by omega),hM⟩
  ·replace hM:=ifF hM hb14
   refine Cf hb14 ?_
   refine zbX ?_
   refine zax ?_
   refine zaA ?_
   refine zaI ?_
   exact zai (v12,a1.left.c0,a1.left.c1,a1.left.c2,a1.left.c3) (.k (.k (.k .nil))) ⟨(hS.keep [true,true] rfl).up (by omega),hM⟩
theorem zeT {p1:Nat} (hnd:[p1].Nodup):∀{n:Nat} {a0:Wheel_×Bool} {a1:Spot_} {st:(List (Spot_×Int))} {r:Int×(List (Spot_×Int))},zbg n a0 a1 st=some r->zkE Try.prog 79 [.ep (zby a0.1 a0.2 p1),.agg (Spot_.cells a1)] [(p1,.obj none (zae (mpv zap st)))] (.i r.1) [(p1,.obj none (zae (mpv zap r.2)))]
 | 0,_,_,_,_,h=>nomatch (show none=some _ from h)
 | n+1,_,_,_,_,h=>zh4 hnd (n:=n) (rec:=zbg n) (fun h=>zeT hnd h) h
theorem zny {n:Nat} {a0:Wheel} {a1:List Int} {r:Int×Int} (hM:zgs n a0 a1=some r):zaR Try.prog 45 [.agg (Wheel.cells a0),.sl .no 1 (a1.map cI)] (.tup [.i r.1,.i r.2]):=by
 refine zau mixed Try.func45 rfl (by decide) Try.ntmps45 (by simp) ?pure fun H0 g hf=>?_
 case pure=>exact .tup _ (zac (.v _) (zac (.v _) zaQ))
 rw [zam]
 change wpA _ _ _ _ (Fr.of [(0,.agg (Wheel.cells a0)),(1,.sl .no 1 (a1.map cI))]) H0 g
 have hS:=St.start hf
 refine Sq ?_
 refine Rg 3 ?_
 refine zcE (v:=.agg (Wheel.cells a0)) (cs:=(Wheel.cells a0)) hS (by decide) rfl rfl (by omega) fun H hS=>?_
 refine Oa (.i 0) ?_
 refine Oa (.i 0) ?_
 refine Ni ?_
 refine za6 (L':=[]) 0 2 hS rfl rfl rfl fun H hS=>?_
 refine Ws ?_
 refine Sq ?_
 refine Rg 11 ?_
 refine Olg (.agg (Wheel.cells a0)) zbS ?_
 refine Om (.sl .no 1 (a1.map cI)) ?_
 obtain ⟨r1,hr1,hM⟩:=zak hM
 rcases bft r1.1.isSome with hb2 | hb2
 ·replace hM:=ifT hM hb2
  obtain ⟨x3,hx3,hM⟩:=zak hM
  refine zs3 (bs:=[.agg (Wheel.cells a0),.sl .no 1 (a1.map cI),.fn (.func 78) [] []]) (.inl rfl) hS (by decide) rfl rfl ((zhd (r:=r1.2) (by rw [←hx3];exact hr1)).le (.k (.k (.k .nil)))) (by omega) fun H hS hU=>?_
  refine Om (.tup [.ep (zby x3 false (g+3+11+19)),.agg (Spot_.cells r1.2.1),.i r1.2.2]) ?_
  refine Ox (.ep (zby x3 false (g+3+11+19))) ?_
  refine Ox (.agg (Spot_.cells r1.2.1)) ?_
  refine Ox (.i r1.2.2) ?_
  refine zqe hS hU (by decide) zcU (by omega) (by omega) (by omega) fun H hS hU=>?_
  refine Oa (.ep (zby x3 false (g+3+11+19))) ?_
  refine zaE (v:=.agg (Spot_.cells r1.2.1)) (ns:=(Spot_.cells r1.2.1)) (L':=[(g+3+7,.cells (Spot_.cells r1.2.1)),(g+3+11+19,.obj none (zae (mpv zap ([]:List (Spot_×Int)))))]) 0 hS rfl rfl .no rfl rfl zel nlb rfl fun H hS=>?_
  refine Oa (.i r1.2.2) ?_
  refine Ni ?_
  refine za6 (L':=[(g+3+11+19,.obj none (zae (mpv zap ([]:List (Spot_×Int)))))]) 0 7 hS rfl rfl rfl fun H hS=>?_
  refine Ws ?_
  refine Sq ?_
  refine Sq ?_
  refine Rg 2 ?_
  refine Om (.i r1.2.2) ?_
  refine Oi (.b (r1.2.2 != 0)) ?_
  refine Ni ?_
  refine Ws ?_
  rcases bft (r1.2.2 != 0) with hb4 | hb4
  ·replace hM:=ifT hM hb4
   refine Ct hb4 ?_
   refine Sq ?_
   refine Rg 3 ?_
   refine Om (.i r1.2.2) ?_
   refine Oa (.i 0) ?_
   refine Oa (.i r1.2.2) ?_
   refine Ni ?_
   replace hS:=hS.keep (L':=[]) [false] rfl
   refine Ws ?_
   refine za0 ?_
   refine zan ?_
   refine za8 (x:=.tup [.i 0,.i r1.2.2]) (f:=fun r=>.tup [.i r.1,.i r.2]) (.inr rfl) ?_ (.refl _) (Option.some.inj hM) hS
   exact (zcy (zaf (x:=.i 0) rfl) (zaf (x:=.i r1.2.2) rfl))
  ·replace hM:=ifF hM hb4
   refine Cf hb4 ?_
   refine zaD ?_
   refine Ws ?_
   refine Sq ?_
   refine Rg 5 ?_
   refine Om (.ep (zby x3 false (g+3+11+19))) ?_
   refine Olg (.agg (Spot_.cells r1.2.1)) zcj ?_
   obtain ⟨r5,hr5,hM⟩:=zak hM
   have hndr5:=hS.nd_at (ns:=[0]) (M:=[(g+3+11+19,.obj none (zae (mpv zap ([]:List (Spot_×Int)))))]) (M':=[(g+3+11+19,.obj none (zae (mpv zap r5.2)))]) (.cons rfl .nil) (by decide)
   refine zln (bs:=[.ep (zby x3 false (g+3+11+19)),.agg (Spot_.cells r1.2.1)]) (M:=[(g+3+11+19,.obj none (zae (mpv zap ([]:List (Spot_×Int)))))]) (M':=[(g+3+11+19,.obj none (zae (mpv zap r5.2)))]) (L':=[(g+3+11+19,.obj none (zae (mpv zap r5.2)))]) [0] (.inl rfl) hS (by decide) rfl rfl ((zeT (p1:=g+3+11+19) hndr5 hr5).le (.k (.k .nil))) (.cons rfl .nil) rfl (by omega) fun H hS=>?_
   refine Oa (.i r5.1) ?_
   refine Oa (.i 0) ?_
   refine Ni ?_
   replace hS:=hS.keep (L':=[]) [false] rfl
   refine Ws ?_
   refine za0 ?_
   refine za8 (x:=.tup [.i r5.1,.i 0]) (f:=fun r=>.tup [.i r.1,.i r.2]) (.inr rfl) ?_ (.refl _) (Option.some.inj hM) hS
   exact (zcy (zaf (x:=.i r5.1) rfl) (zaf (x:=.i 0) rfl))
 ·replace hM:=ifF hM hb2
  have hb2':r1.1=none:=by rw [Option.isSome_eq_false_iff,Option.isNone_iff_eq_none] at hb2;exact hb2
  refine zaK (bs:=[.agg (Wheel.cells a0),.sl .no 1 (a1.map cI),.fn (.func 78) [] []]) (by decide) rfl rfl ((zhc (r:=r1.2) (by rw [←hb2'];exact hr1)).le (.k (.k (.k .nil)))) ?_
  refine Om (.tup [.v (.pointer none),.agg (Spot_.cells r1.2.1),.i r1.2.2]) ?_
  refine Ox (.v (.pointer none)) ?_
  refine Ox (.agg (Spot_.cells r1.2.1)) ?_
  refine Ox (.i r1.2.2) ?_
  refine zba hS (by decide) zcU (by omega) fun H hS=>?_
  refine Oa (.v (.pointer none)) ?_
  refine zaE (v:=.agg (Spot_.cells r1.2.1)) (ns:=(Spot_.cells r1.2.1)) (L':=[(g+3+7,.cells (Spot_.cells r1.2.1))]) 0 hS rfl rfl .no rfl rfl zel nlb rfl fun H hS=>?_
  refine Oa (.i r1.2.2) ?_
  refine Ni ?_
  refine za6 (L':=[]) 0 7 hS rfl rfl rfl fun H hS=>?_
  refine Ws ?_
  refine Sq ?_
  refine Sq ?_
  refine Rg 2 ?_
  refine Om (.i r1.2.2) ?_
  refine Oi (.b (r1.2.2 != 0)) ?_
  refine Ni ?_
  refine Ws ?_
  rcases bft (r1.2.2 != 0) with hb6 | hb6
  ·replace hM:=ifT hM hb6
   refine Ct hb6 ?_
   refine Sq ?_
   refine Rg 3 ?_
   refine Om (.i r1.2.2) ?_
   refine Oa (.i 0) ?_
   refine Oa (.i r1.2.2) ?_
   refine Ni ?_
   refine Ws ?_
   refine za0 ?_
   refine zan ?_
   refine za8 (x:=.tup [.i 0,.i r1.2.2]) (f:=fun r=>.tup [.i r.1,.i r.2]) (.inr rfl) ?_ (.refl _) (Option.some.inj hM) hS
   exact (zcy (zaf (x:=.i 0) rfl) (zaf (x:=.i r1.2.2) rfl))
  ·replace hM:=ifF hM hb6
   refine Cf hb6 ?_
   refine zaD ?_
   refine Ws ?_
   refine Sq ?_
   refine Rg 5 ?_
   refine Om (.v (.pointer none)) ?_
   refine Olg (.agg (Spot_.cells r1.2.1)) zcj ?_
   exact nomatch (show none=some _ from hM)
theorem zkw {n:Nat} {a0:Wheel} {a1:List Int} {r:Int×Int} (hM:ze3 n a0 a1=some r):zaR Try.prog 46 [.agg (Wheel.cells a0),.sl .no 1 (a1.map cI)] (.tup [.i r.1,.i r.2]):=by
 refine zau mixed Try.func46 rfl (by decide) Try.ntmps46 (by simp) ?pure fun H0 g hf=>?_
 case pure=>exact .tup _ (zac (.v _) (zac (.v _) zaQ))
 rw [zam]
 change wpA _ _ _ _ (Fr.of [(0,.agg (Wheel.cells a0)),(1,.sl .no 1 (a1.map cI))]) H0 g
 have hS:=St.start hf
 refine Sq ?_
 refine Rg 3 ?_
 refine zcE (v:=.agg (Wheel.cells a0)) (cs:=(Wheel.cells a0)) hS (by decide) rfl rfl (by omega) fun H hS=>?_
 refine Oa (.i 0) ?_
 refine Oa (.i 0) ?_
 refine Ni ?_
 refine za6 (L':=[]) 0 2 hS rfl rfl rfl fun H hS=>?_
 refine Ws ?_
 refine Sq ?_
 refine Rg 11 ?_
 refine Olg (.agg (Wheel.cells a0)) zbS ?_
 refine Om (.sl .no 1 (a1.map cI)) ?_
 obtain ⟨r1,hr1,hM⟩:=zak hM
 rcases bft r1.1.isSome with hb2 | hb2
 ·replace hM:=ifT hM hb2
  obtain ⟨x3,hx3,hM⟩:=zak hM
  refine zs3 (bs:=[.agg (Wheel.cells a0),.sl .no 1 (a1.map cI),.fn (.func 80) [] []]) (.inl rfl) hS (by decide) rfl rfl ((zhd (r:=r1.2) (by rw [←hx3];exact hr1)).le (.k (.k (.k .nil)))) (by omega) fun H hS hU=>?_
  refine Om (.tup [.ep (zby x3 true (g+3+11+19)),.agg (Spot_.cells r1.2.1),.i r1.2.2]) ?_
  refine Ox (.ep (zby x3 true (g+3+11+19))) ?_
  refine Ox (.agg (Spot_.cells r1.2.1)) ?_
  refine Ox (.i r1.2.2) ?_
  refine zqe hS hU (by decide) zcU (by omega) (by omega) (by omega) fun H hS hU=>?_
  refine Oa (.ep (zby x3 true (g+3+11+19))) ?_
  refine zaE (v:=.agg (Spot_.cells r1.2.1)) (ns:=(Spot_.cells r1.2.1)) (L':=[(g+3+7,.cells (Spot_.cells r1.2.1)),(g+3+11+19,.obj none (zae (mpv zap ([]:List (Spot_×Int)))))]) 0 hS rfl rfl .no rfl rfl zel nlb rfl fun H hS=>?_
  refine Oa (.i r1.2.2) ?_
  refine Ni ?_
  refine za6 (L':=[(g+3+11+19,.obj none (zae (mpv zap ([]:List (Spot_×Int)))))]) 0 7 hS rfl rfl rfl fun H hS=>?_
  refine Ws ?_
  refine Sq ?_
  refine Sq ?_
  refine Rg 2 ?_
  refine Om (.i r1.2.2) ?_
  refine Oi (.b (r1.2.2 != 0)) ?_
  refine Ni ?_
  refine Ws ?_
  rcases bft (r1.2.2 != 0) with hb4 | hb4
  ·replace hM:=ifT hM hb4
   refine Ct hb4 ?_
   refine Sq ?_
   refine Rg 3 ?_
   refine Om (.i r1.2.2) ?_
   refine Oa (.i 0) ?_
   refine Oa (.i r1.2.2) ?_
   refine Ni ?_
   replace hS:=hS.keep (L':=[]) [false] rfl
   refine Ws ?_
   refine za0 ?_
   refine zan ?_
   refine za8 (x:=.tup [.i 0,.i r1.2.2]) (f:=fun r=>.tup [.i r.1,.i r.2]) (.inr rfl) ?_ (.refl _) (Option.some.inj hM) hS
   exact (zcy (zaf (x:=.i 0) rfl) (zaf (x:=.i r1.2.2) rfl))
  ·replace hM:=ifF hM hb4
   refine Cf hb4 ?_
   refine zaD ?_
   refine Ws ?_
   refine Sq ?_
   refine Rg 5 ?_
   refine Om (.ep (zby x3 true (g+3+11+19))) ?_
   refine Olg (.agg (Spot_.cells r1.2.1)) zcj ?_
   obtain ⟨r5,hr5,hM⟩:=zak hM
   have hndr5:=hS.nd_at (ns:=[0]) (M:=[(g+3+11+19,.obj none (zae (mpv zap ([]:List (Spot_×Int)))))]) (M':=[(g+3+11+19,.obj none (zae (mpv zap r5.2)))]) (.cons rfl .nil) (by decide)
   refine zln (bs:=[.ep (zby x3 true (g+3+11+19)),.agg (Spot_.cells r1.2.1)]) (M:=[(g+3+11+19,.obj none (zae (mpv zap ([]:List (Spot_×Int)))))]) (M':=[(g+3+11+19,.obj none (zae (mpv zap r5.2)))]) (L':=[(g+3+11+19,.obj none (zae (mpv zap r5.2)))]) [0] (.inl rfl) hS (by decide) rfl rfl ((zeT (p1:=g+3+11+19) hndr5 hr5).le (.k (.k .nil))) (.cons rfl .nil) rfl (by omega) fun H hS=>?_
   refine Oa (.i r5.1) ?_
   refine Oa (.i 0) ?_
   refine Ni ?_
   replace hS:=hS.keep (L':=[]) [false] rfl
   refine Ws ?_
   refine za0 ?_
   refine za8 (x:=.tup [.i r5.1,.i 0]) (f:=fun r=>.tup [.i r.1,.i r.2]) (.inr rfl) ?_ (.refl _) (Option.some.inj hM) hS
   exact (zcy (zaf (x:=.i r5.1) rfl) (zaf (x:=.i 0) rfl))
 ·replace hM:=ifF hM hb2
  have hb2':r1.1=none:=by rw [Option.isSome_eq_false_iff,Option.isNone_iff_eq_none] at hb2;exact hb2
  refine zaK (bs:=[.agg (Wheel.cells a0),.sl .no 1 (a1.map cI),.fn (.func 80) [] []]) (by decide) rfl rfl ((zhc (r:=r1.2) (by rw [←hb2'];exact hr1)).le (.k (.k (.k .nil)))) ?_
  refine Om (.tup [.v (.pointer none),.agg (Spot_.cells r1.2.1),.i r1.2.2]) ?_
  refine Ox (.v (.pointer none)) ?_
  refine Ox (.agg (Spot_.cells r1.2.1)) ?_
  refine Ox (.i r1.2.2) ?_
  refine zba hS (by decide) zcU (by omega) fun H hS=>?_
  refine Oa (.v (.pointer none)) ?_
  refine zaE (v:=.agg (Spot_.cells r1.2.1)) (ns:=(Spot_.cells r1.2.1)) (L':=[(g+3+7,.cells (Spot_.cells r1.2.1))]) 0 hS rfl rfl .no rfl rfl zel nlb rfl fun H hS=>?_
  refine Oa (.i r1.2.2) ?_
  refine Ni ?_
  refine za6 (L':=[]) 0 7 hS rfl rfl rfl fun H hS=>?_
  refine Ws ?_
  refine Sq ?_
  refine Sq ?_
  refine Rg 2 ?_
  refine Om (.i r1.2.2) ?_
  refine Oi (.b (r1.2.2 != 0)) ?_
  refine Ni ?_
  refine Ws ?_
  rcases bft (r1.2.2 != 0) with hb6 | hb6
  ·replace hM:=ifT hM hb6
   refine Ct hb6 ?_
   refine Sq ?_
   refine Rg 3 ?_
   refine Om (.i r1.2.2) ?_
   refine Oa (.i 0) ?_
   refine Oa (.i r1.2.2) ?_
   refine Ni ?_
   refine Ws ?_
   refine za0 ?_
   refine zan ?_
   refine za8 (x:=.tup [.i 0,.i r1.2.2]) (f:=fun r=>.tup [.i r.1,.i r.2]) (.inr rfl) ?_ (.refl _) (Option.some.inj hM) hS
   exact (zcy (zaf (x:=.i 0) rfl) (zaf (x:=.i r1.2.2) rfl))
  ·replace hM:=ifF hM hb6
   refine Cf hb6 ?_
   refine zaD ?_
   refine Ws ?_
   refine Sq ?_
   refine Rg 5 ?_
   refine Om (.v (.pointer none)) ?_
   refine Olg (.agg (Spot_.cells r1.2.1)) zcj ?_
   exact nomatch (show none=some _ from hM)
theorem zf3 {n:Nat} {r:Bool} (hM:zd0 n=some r):zaR Try.prog 52 [] (.b r):=by
 refine zau mixed Try.func52 rfl (by decide) Try.ntmps52 (by simp) ?pure fun H0 g hf=>?_
 case pure=>exact .v _
 rw [zam]
 change wpA _ _ _ _ (Fr.of []) H0 g
 have hS:=St.start hf
 refine Sq ?_
 refine Rg 1 ?_
 refine Oa (.b false) ?_
 refine Ni ?_
 refine Ws ?_
 refine Sq ?_
 refine Rg 5 ?_
 refine zaZ (es:=[[.i 10],[.i 20],[.i 25]]) hS (by decide) zaJ zbT rfl zbJ rfl (by decide) (by omega) fun H hS=>?_
 refine zaZ (es:=[[.i 5],[.i 10],[.i 25]]) hS (by decide) zaJ zbT rfl zbJ rfl (by decide) (by omega) fun H hS=>?_
 refine zbE (cs:=[.i 50,.sl (.id (g+1+0)) 1 (([10,20,25]:List Int).map cI),.sl (.id (g+1+1)) 1 (([5,10,25]:List Int).map cI)]) (by decide) zji ztd rfl ?_
 refine zba hS (by decide) zji (by omega) fun H hS=>?_
 refine zaE (v:=.agg [.i 50,.sl (.id (g+1+0)) 1 (([10,20,25]:List Int).map cI),.sl (.id (g+1+1)) 1 (([5,10,25]:List Int).map cI)]) (ns:=[.i 50,.sl (.id (g+1+0)) 1 (([10,20,25]:List Int).map cI),.sl (.id (g+1+1)) 1 (([5,10,25]:List Int).map cI)]) (L':=[(g+1+3,.cells [.i 50,.sl (.id (g+1+0)) 1 (([10,20,25]:List Int).map cI),.sl (.id (g+1+1)) 1 (([5,10,25]:List Int).map cI)]),(g+1+1,.row 3 3),(g+1+0,.row 3 3)]) 0 hS rfl rfl .no rfl rfl znl nlb rfl fun H hS=>?_
 refine Ni ?_
 refine zvT (cs':=[.i 50,.sl .no 1 (([10,20,25]:List Int).map cI),.sl .no 1 (([5,10,25]:List Int).map cI)]) (L':=[(g+1+3,.cells [.i 50,.sl .no 1 (([10,20,25]:List Int).map cI),.sl .no 1 (([5,10,25]:List Int).map cI)]),(g+1+1,.row 3 3),(g+1+0,.row 3 3)]) 0 hS rfl (.k (.cons (.sl _ _ _) (.cons (.sl _ _ _) .nil))) rfl fun H hS=>?_
 refine za6 (L':=[(g+1+1,.row 3 3),(g+1+0,.row 3 3)]) 0 1 hS rfl rfl rfl fun H hS=>?_
 replace hS:=hS.keep (L':=[]) [false,false] rfl
 refine Ws ?_
 refine Sq ?_
 refine Rg 8 ?_
 refine Olg (.agg [.i 50,.sl .no 1 (([10,20,25]:List Int).map cI),.sl .no 1 (([5,10,25]:List Int).map cI)]) zbS ?_
 refine zaZ (es:=[[.i 0],[.i 0],[.i 2]]) hS (by decide) zaJ zbT rfl zbJ rfl (by decide) (by omega) fun H hS=>?_
 obtain ⟨r1,hr1,hM⟩:=zak hM
 refine zaK (bs:=[.agg [.i 50,.sl .no 1 (([10,20,25]:List Int).map cI),.sl .no 1 (([5,10,25]:List Int).map cI)],.sl (.id (g+1+5+1)) 1 (([0,0,2]:List Int).map cI)]) (by decide) rfl rfl ((zkw hr1).le (.k (.cons (.sl _ _ _) .nil))) ?_
 refine Om (.tup [.i r1.1,.i r1.2]) ?_
 refine Ox (.i r1.1) ?_
 refine Ox (.i r1.2) ?_
 refine Oa (.i r1.1) ?_
 refine Oa (.i r1.2) ?_
 refine Ni ?_
 replace hS:=hS.keep (L':=[]) [false] rfl
 refine Ws ?_
 refine Sq ?_
 refine Rg 2 ?_
 refine zaZ (es:=[[.i 0],[.i 0],[.i 0]]) hS (by decide) zaJ zbT rfl zbJ rfl (by decide) (by omega) fun H hS=>?_
 refine Oa (.sl (.id (g+1+5+8+0)) 1 (([0,0,0]:List Int).map cI)) ?_
 refine Ni ?_
 refine Ws ?_
 refine Sq ?_
 refine Rg 11 ?_
 refine Olg (.agg [.i 50,.sl .no 1 (([10,20,25]:List Int).map cI),.sl .no 1 (([5,10,25]:List Int).map cI)]) zbS ?_
 refine Om (.sl (.id (g+1+5+8+0)) 1 (([0,0,0]:List Int).map cI)) ?_
 refine Om (.sl (.id (g+1+5+8+0)) 1 (([0,0,0]:List Int).map cI)) ?_
 refine Om (.sl (.id (g+1+5+8+0)) 1 (([0,0,0]:List Int).map cI)) ?_
 refine zbE (cs:=[.i 50,.sl .no 1 (([10,20,25]:List Int).map cI),.sl .no 1 (([5,10,25]:List Int).map cI),.sl (.id (g+1+5+8+0)) 1 (([0,0,0]:List Int).map cI),.sl (.id (g+1+5+8+0)) 1 (([0,0,0]:List Int).map cI),.sl (.id (g+1+5+8+0)) 1 (([0,0,0]:List Int).map cI),.i 3,.i 0]) (by decide) zjj zv4 rfl ?_
 obtain ⟨r2,hr2,hM⟩:=zak hM
 refine zaK (bs:=[.agg [.i 50,.sl .no 1 (([10,20,25]:List Int).map cI),.sl .no 1 (([5,10,25]:List Int).map cI),.sl (.id (g+1+5+8+0)) 1 (([0,0,0]:List Int).map cI),.sl (.id (g+1+5+8+0)) 1 (([0,0,0]:List Int).map cI),.sl (.id (g+1+5+8+0)) 1 (([0,0,0]:List Int).map cI),.i 3,.i 0]]) (by decide) rfl rfl ((zfy hr2).le (.cons (.aggL (.k (.k (.k (.cons (.sl _ _ _) (.cons (.sl _ _ _) (.cons (.sl _ _ _) (.k (.k .nil))))))))) .nil)) ?_
 refine Om (.tup [.i r2.1,.i r2.2]) ?_
 refine Ox (.i r2.1) ?_
 refine Ox (.i r2.2) ?_
 refine Oa (.i r2.1) ?_
 refine Oa (.i r2.2) ?_
 refine Ni ?_
 replace hS:=hS.keep (L':=[]) [false] rfl
 refine Ws ?_
 refine za2 (J:=Bool) (fun j=>[(0,.b j)]) (fun j H' g'=>St (·<g) H0 [] H' g'/\zcR j=some r) ?_ ?_
 ·rintro v3 H g1 ⟨hS,hM⟩
  change wpA _ _ _ _ (Fr.of [(0,.b v3)]) _ _
  replace hS:St (·<g) H0 [] H g1:=hS
  replace hM:zcR v3=some r:=hM
  refine za0 ?_
  refine za8 (x:=.b v3) (f:=fun r=>.b r) (.inr rfl) ?_ (.refl _) (Option.some.inj hM) hS
  exact (zaH (zaf (x:=.b v3) rfl))
 ·refine Rg 15 ?_
  refine Om (.i r1.2) ?_
  refine Oi (.b (r1.2==0)) ?_
  refine Om (.b (r1.2==0)) ?_
  rcases bft (r1.2==0) with hb4 | hb4
  ·replace hM:=ifT hM hb4
   refine Oy (want:=true) hb4 ?_
   refine Om (.i r2.2) ?_
   refine Oy (want:=true) hb4 ?_
   refine Oi (.b (r2.2==0)) ?_
   refine Pt (.b (r2.2==0)) hb4 ?_
   refine Om (.b (r2.2==0)) ?_
   rcases bft (r2.2==0) with hb5 | hb5
   ·replace hM:=ifT hM hb5
    refine Oy (want:=true) hb5 ?_
    refine Om (.i r1.1) ?_
    refine Oy (want:=true) hb5 ?_
    refine Oi (.b (r1.1==6)) ?_
    refine Pt (.b (r1.1==6)) hb5 ?_
    refine Om (.b (r1.1==6)) ?_
    rcases bft (r1.1==6) with hb6 | hb6
    ·replace hM:=ifT hM hb6
     refine Oy (want:=true) hb6 ?_
     refine Om (.i r2.1) ?_
     refine Oy (want:=true) hb6 ?_
     refine Oi (.b (r2.1==25)) ?_
     refine Pt (.b (r2.1==25)) hb6 ?_
     refine Oa (.b (r2.1==25)) ?_
     refine Ni ?_
     exact zai (r2.1==25) (.k .nil) ⟨(hS.keep [] rfl).up (by omega),hM⟩
    ·replace hM:=ifF hM hb6
     refine On (want:=true) hb6 ?_
     refine On (want:=true) hb6 ?_
     refine Pf (.b false) hb6 ?_
     refine Oa (.b false) ?_
     refine Ni ?_
     exact zai false (.k .nil) ⟨(hS.keep [] rfl).up (by omega),hM⟩
   ·replace hM:=ifF hM hb5
    refine On (want:=true) hb5 ?_
    refine On (want:=true) hb5 ?_
    refine Pf (.b false) hb5 ?_
    refine Om (.b false) ?_
    refine Og ?_
    refine Og ?_
    refine ze7 (v:=.b false) (e:=false) (by decide) rfl rfl rfl ?_
    refine Oa (.b false) ?_
    refine Ni ?_
    exact zai false (.k .nil) ⟨(hS.keep [] rfl).up (by omega),hM⟩
  ·replace hM:=ifF hM hb4
   refine On (want:=true) hb4 ?_
   refine On (want:=true) hb4 ?_
   refine Pf (.b false) hb4 ?_
   refine Om (.b false) ?_
   refine Og ?_
   refine Og ?_
   refine ze7 (v:=.b false) (e:=false) (by decide) rfl rfl rfl ?_
   refine Om (.b false) ?_
   refine Og ?_
   refine Og ?_
   refine ze7 (v:=.b false) (e:=false) (by decide) rfl rfl rfl ?_
   refine Oa (.b false) ?_
   refine Ni ?_
   exact zai false (.k .nil) ⟨(hS.keep [] rfl).up (by omega),hM⟩
theorem ziU {a0:Wheel_} {a1:Int} {r:Bool} (hM:zdp a0 a1=some r):zaR Try.prog 87 [.agg (Wheel.cells a0.Wheel),.ep [.i a1]] (.b r):=by
 refine zau mixed Try.func87 rfl (by decide) Try.ntmps87 (by simp) ?pure fun H0 g hf=>?_
 case pure=>exact .v _
 rw [zam]
 change wpA _ _ _ _ (Fr.of [(0,.agg (Wheel.cells a0.Wheel)),(1,.ep [.i a1])]) H0 g
 have hS:=St.start hf
 refine Sq ?_
 refine Rg 2 ?_
 refine zcE (v:=.agg (Wheel.cells a0.Wheel)) (cs:=(Wheel.cells a0.Wheel)) hS (by decide) rfl rfl (by omega) fun H hS=>?_
 refine Oa (.b false) ?_
 refine Ni ?_
 replace hS:=hS.keep (L':=[]) [false] rfl
 refine Ws ?_
 refine Sq ?_
 refine Rg 3 ?_
 refine Olp (.i a1) zag zas ?_
 obtain ⟨r1,hr1,hM⟩:=zak hM
 refine zaK (bs:=[.i a1,.i 1,.i 20]) (by decide) rfl rfl ((zde hr1).le (.k (.k (.k .nil)))) ?_
 refine Oa (.b r1) ?_
 refine Ni ?_
 refine Ws ?_
 refine za0 ?_
 refine za8 (x:=.b r1) (f:=fun r=>.b r) (.inr rfl) ?_ (.refl _) (Option.some.inj hM) hS
 exact (zaH (zaf (x:=.b r1) rfl))
end Go.Proofs.Ytenogpmlhpcibaa
