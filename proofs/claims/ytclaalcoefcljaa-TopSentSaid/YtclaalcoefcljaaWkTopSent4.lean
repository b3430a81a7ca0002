/-
  The code returns what the functions say (printed by gen.py).
  Conditions: none.
-/
import Derived.Test.YtclaalcoefcljaaWkTopSent3
import Derived.Test.YtclaalcoefcljaaAmPc
set_option linter.all false
namespace Go.Proofs.Ytclaalcoefcljaa
open Go Go.AM Go.Law
set_option linter.unusedVariables false
set_option maxRecDepth 4000
set_option maxHeartbeats 4000000
theorem zj1 {n:Nat} {a0:Pulse} {a1:List Int} {a2:Int} {r:(List Int)×Int} (hM:zgh n a0 a1 a2=some r):zaJ Try.prog 45 [.agg (Pulse.cells a0),.sl .no 1 (a1.map cI),.i a2] (.tup [.sl .no 1 (r.1.map cI),.i r.2]):=by
 refine zax mixed Try.func45 rfl (by decide) Try.ntmps45 (by simp) ?pure fun H0 g hf=>?_
 case pure=>exact .tup _ (zac (.sl _ _ (zav (fun x=>(zac (.v _) zaE)))) (zac (.v _) zaE))
 rw [zan]
 change wpA _ _ _ _ (Fr.of [(0,.agg (Pulse.cells a0)),(1,.sl .no 1 (a1.map cI)),(2,.i a2)]) H0 g
 have hS:=St.start hf
 refine Sq ?_
 refine Rg 4 ?_
 refine zd2 (v:=.agg (Pulse.cells a0)) (cs:=(Pulse.cells a0)) hS (by decide) rfl rfl (by omega) fun H hS=>?_
 refine zd2 (v:=.i a2) (cs:=[.i a2]) hS (by decide) rfl rfl (by omega) fun H hS=>?_
 refine Oa (.sl .nil 0 []) ?_
 refine Oa (.i 0) ?_
 refine Ni ?_
 refine Ws ?_
 refine Sq ?_
 refine Sq ?_
 refine Rg 3 ?_
 refine zaG (v:=.agg (Pulse.cells a0)) 1 hS (by decide) rfl rfl .no (pg zb7) ?_
 obtain ⟨r1,hr1,hM⟩:=zas hM
 refine zaP (bs:=[.agg (Pulse.cells a0)]) (by decide) rfl rfl ((zhI hr1).le (.k .nil)) ?_
 refine Oa (.i r1) ?_
 refine Ni ?_
 refine Ws ?_
 refine Sq ?_
 refine Rg 2 ?_
 refine Om (.i r1) ?_
 refine Oi (.b (r1 != 0)) ?_
 refine Ni ?_
 refine Ws ?_
 rcases bft (r1 != 0) with hb2 | hb2
 ·replace hM:=ifT hM hb2
  refine Ct hb2 ?_
  refine Sq ?_
  refine Rg 3 ?_
  refine Om (.i r1) ?_
  refine Oa (.sl .nil 0 []) ?_
  refine Oa (.i r1) ?_
  refine Ni ?_
  replace hS:=hS.keep (L':=[]) [false,false] rfl
  refine Ws ?_
  refine zaQ ?_
  refine zaq ?_
  refine za7 (x:=.tup [.sl .nil 0 [],.i r1]) (f:=fun r=>.tup [.sl .no 1 (r.1.map cI),.i r.2]) (.inr rfl) ?_ (.tupL (.cons (.sl0 .nil 1 0) (.k .nil))) (Option.some.inj hM) hS
  exact (zc3 (zai (x:=.sl .nil 0 []) rfl) (zai (x:=.i r1) rfl))
 ·replace hM:=ifF hM hb2
  refine Cf hb2 ?_
  refine zaC ?_
  refine Ws ?_
  refine Sq ?_
  refine Rg 4 ?_
  refine zaG (v:=.agg (Pulse.cells a0)) 1 hS (by decide) rfl rfl .no (pg zb7) ?_
  refine zdb (cs:=(Pulse.cells a0)) (by decide) zhA zm7 rfl ?_
  refine zdI hS (by decide) zhA (by omega) fun H hS=>?_
  refine zaM (v:=.agg (Pulse.cells a0)) (ns:=(Pulse.cells a0)) (L':=[(g+4+3+2+2,.cells (Pulse.cells a0)),(g+1,.cells [.i a2]),(g+0,.cells (Pulse.cells a0))]) 0 hS rfl rfl .no rfl rfl zlE nlb rfl fun H hS=>?_
  refine Ni ?_
  refine Ws ?_
  refine Sq ?_
  refine zaO (J:=Bool) (fun j=>[(1,.sl .no 1 (a1.map cI)),(3,.ptr (g+0) 0),(5,.ptr (g+1) 0),(33,.b j)]) (fun j H' g'=>St (·<g) H0 [(g+1,.cells [.i a2]),(g+0,.cells (Pulse.cells a0))] H' g'/\zdA n a0 a1 a2 j=some r) ?_ ?_
  ·rintro v3 H g1 ⟨hS,hM⟩
   change wpA _ _ _ _ (Fr.of [(1,.sl .no 1 (a1.map cI)),(3,.ptr (g+0) 0),(5,.ptr (g+1) 0),(33,.b v3)]) _ _
   replace hS:St (·<g) H0 [(g+1,.cells [.i a2]),(g+0,.cells (Pulse.cells a0))] H g1:=hS
   replace hM:zdA n a0 a1 a2 v3=some r:=hM
   rcases bft v3 with hb4 | hb4
   ·replace hM:=ifT hM hb4
    refine Ct hb4 ?_
    refine Sq ?_
    refine Rg 2 ?_
    refine Oa (.sl .nil 0 []) ?_
    refine Oa (.i 1) ?_
    refine Ni ?_
    replace hS:=hS.keep (L':=[]) [false,false] rfl
    refine Ws ?_
    refine zaQ ?_
    refine zaq ?_
    refine za7 (x:=.tup [.sl .nil 0 [],.i 1]) (f:=fun r=>.tup [.sl .no 1 (r.1.map cI),.i r.2]) (.inr rfl) ?_ (.tupL (.cons (.sl0 .nil 1 0) (.k .nil))) (Option.some.inj hM) hS
    exact (zc3 (zai (x:=.sl .nil 0 []) rfl) (zai (x:=.i 1) rfl))
   ·replace hM:=ifF hM hb4
    refine Cf hb4 ?_
    refine zaC ?_
    refine Ws ?_
    refine Sq ?_
    refine Rg 1 ?_
    refine zdI hS (by decide) zlz (by omega) fun H hS=>?_
    refine Ni ?_
    refine zha (cs':=[.sl (.id (g1+1)) 1 (([]:List Int).map cI)]) (L':=[(g1+0,.cells [.sl (.id (g1+1)) 1 (([]:List Int).map cI)]),(g+1,.cells [.i a2]),(g+0,.cells (Pulse.cells a0))]) 0 0 1 3 hS (by omega) (by decide) rfl rfl rfl rfl fun H hS=>?_
    refine Ws ?_
    refine Sq ?_
    refine Rg 2 ?_
    refine zfP (first:=[]) (cap:=[.ptr (g1+0) 0,.ptr (g+1) 0,.ptr (g+0) 0]) (by decide) rfl rfl ?_
    refine Oa (.fn (.func 79) [] [.ptr (g1+0) 0,.ptr (g+1) 0,.ptr (g+0) 0]) ?_
    refine Ni ?_
    refine Ws ?_
    refine zaO (J:=(List Int)×Int) (fun j=>[(5,.ptr (g+1) 0),(10,.ptr (g1+0) 0)]) (fun j H' g'=>St (·<g) H0 [(g1+1,.row 3 j.1.length),(g1+0,.cells [.sl (.id (g1+1)) 1 (j.1.map cI)]),(g+1,.cells [.i j.2])] H' g'/\zeb j.1 j.2=some r) ?_ ?_
    ·rintro ⟨v5,v6⟩ H g2 ⟨hS,hM⟩
     change wpA _ _ _ _ (Fr.of [(5,.ptr (g+1) 0),(10,.ptr (g1+0) 0)]) _ _
     replace hS:St (·<g) H0 [(g1+1,.row 3 v5.length),(g1+0,.cells [.sl (.id (g1+1)) 1 (v5.map cI)]),(g+1,.cells [.i v6])] H g2:=hS
     replace hM:zeb v5 v6=some r:=hM
     refine Sq ?_
     refine zaO (J:=Bool) (fun j=>[(10,.ptr (g1+0) 0),(67,.b j)]) (fun j H' g'=>St (·<g) H0 [(g1+1,.row 3 v5.length),(g1+0,.cells [.sl (.id (g1+1)) 1 (v5.map cI)])] H' g'/\zea v5 j=some r) ?_ ?_
     ·rintro v7 H g3 ⟨hS,hM⟩
      change wpA _ _ _ _ (Fr.of [(10,.ptr (g1+0) 0),(67,.b v7)]) _ _
      replace hS:St (·<g) H0 [(g1+1,.row 3 v5.length),(g1+0,.cells [.sl (.id (g1+1)) 1 (v5.map cI)])] H g3:=hS
      replace hM:zea v5 v7=some r:=hM
      rcases bft v7 with hb8 | hb8
      ·replace hM:=ifT hM hb8
       refine Ct hb8 ?_
       refine Sq ?_
       refine Rg 2 ?_
       refine Oa (.sl .nil 0 []) ?_
       refine Oa (.i 131) ?_
       refine Ni ?_
       replace hS:=hS.keep (L':=[]) [false,false] rfl
       refine Ws ?_
       refine zaQ ?_
       refine zaq ?_
       refine za7 (x:=.tup [.sl .nil 0 [],.i 131]) (f:=fun r=>.tup [.sl .no 1 (r.1.map cI),.i r.2]) (.inr rfl) ?_ (.tupL (.cons (.sl0 .nil 1 0) (.k .nil))) (Option.some.inj hM) hS
       exact (zc3 (zai (x:=.sl .nil 0 []) rfl) (zai (x:=.i 131) rfl))
      ·replace hM:=ifF hM hb8
       refine Cf hb8 ?_
       refine zaC ?_
       refine Ws ?_
       refine Sq ?_
       refine Rg 3 ?_
       refine zaG (v:=.sl (.id (g1+1)) 1 (v5.map cI)) 1 hS (by decide) rfl rfl .no (po zb6 zcX) ?_
       refine Oa (.sl (.id (g1+1)) 1 (v5.map cI)) ?_
       refine Oa (.i 0) ?_
       refine Ni ?_
       replace hS:=hS.keep (L':=[(g1+1,.row 3 v5.length)]) [true,false] rfl
       refine Ws ?_
       refine zaQ ?_
       refine za7 (x:=.tup [.sl (.id (g1+1)) 1 (v5.map cI),.i 0]) (f:=fun r=>.tup [.sl .no 1 (r.1.map cI),.i r.2]) (.inr rfl) ?_ (.tupL (.cons (.sl _ _ _) (.k .nil))) (Option.some.inj hM) hS
       exact (zc3 (zai (x:=.sl (.id (g1+1)) 1 (v5.map cI)) rfl) (zai (x:=.i 0) rfl))
     ·refine Rg 8 ?_
      refine zaG (v:=.sl (.id (g1+1)) 1 (v5.map cI)) 1 hS (by decide) rfl rfl .no (po zb6 zcX) ?_
      refine zcg (n:=v5.length) (by decide) rfl (List.length_map _) zbA ?_
      refine Oi (.b (decide ((v5.length:Int)>24))) ?_
      refine Om (.b (decide ((v5.length:Int)>24))) ?_
      rcases bft (decide ((v5.length:Int)>24)) with hb9 | hb9
      ·replace hM:=ifT hM hb9
       refine On (want:=false) hb9 ?_
       refine On (want:=false) hb9 ?_
       refine On (want:=false) hb9 ?_
       refine Pt (.b true) hb9 ?_
       refine Ni ?_
       exact zak true (.k (.k .nil)) ⟨(hS.keep [true,true,false] rfl).up (by omega),hM⟩
      ·replace hM:=ifF hM hb9
       refine Oy (want:=false) hb9 ?_
       refine zaG (v:=.i v6) 2 hS (by decide) rfl rfl .no (po zaf zap) ?_
       refine Oy (want:=false) hb9 ?_
       obtain ⟨r10,hr10,hM⟩:=zas hM
       refine zaP (bs:=[.i v6]) (by decide) rfl rfl ((zhn hr10).le (.k .nil)) ?_
       refine Oy (want:=false) hb9 ?_
       refine zdW (e:=r10) (by decide) rfl ?_
       refine Pf (.b (!r10)) hb9 ?_
       refine Ni ?_
       exact zak (!r10) (.k (.k .nil)) ⟨(hS.keep [true,true,false] rfl).up (by omega),hM⟩
    ·refine Sq ?_
     refine Rg 3 ?_
     refine Om (.sl .no 1 (a1.map cI)) ?_
     refine zcg (n:=a1.length) (by decide) rfl (List.length_map _) zbA ?_
     refine Om (.i 0) ?_
     refine Ni ?_
     refine Ws ?_
     refine zaz ?_
     refine zcx (V:=Int×(List Int)×Int) (fun v=>[(3,.ptr (g+0) 0),(5,.ptr (g+1) 0),(10,.ptr (g1+0) 0),(11,.fn (.func 79) [] [.ptr (g1+0) 0,.ptr (g+1) 0,.ptr (g+0) 0]),(35,.sl .no 1 (a1.map cI)),(36,.i (a1.length:Int)),(37,.i v.1)]) (fun v m5 H' g'=>St (·<g) H0 [(g1+1,.row 3 v.2.1.length),(g1+0,.cells [.sl (.id (g1+1)) 1 (v.2.1.map cI)]),(g+1,.cells [.i v.2.2]),(g+0,.cells (Pulse.cells a0))] H' g'/\zcK n a0 a1 m5 v.1 v.2.1 v.2.2=some r) (n:=n) (0,([]:List Int),a2) (.k (.k (.k (.k (.k (.k (.k .nil))))))) ⟨(hS.keep [true,true,true,true] rfl).up (by omega),hM⟩ ?_
     rintro ⟨v12,v13,v14⟩ m5 H g5 ⟨hS,hM⟩
     obtain _ | m5:=m5
     ·exact nomatch (show none=some _ from hM)
     change wpA _ _ _ _ (Fr.of [(3,.ptr (g+0) 0),(5,.ptr (g+1) 0),(10,.ptr (g1+0) 0),(11,.fn (.func 79) [] [.ptr (g1+0) 0,.ptr (g+1) 0,.ptr (g+0) 0]),(35,.sl .no 1 (a1.map cI)),(36,.i (a1.length:Int)),(37,.i v12)]) _ _
     replace hS:St (·<g) H0 [(g1+1,.row 3 v13.length),(g1+0,.cells [.sl (.id (g1+1)) 1 (v13.map cI)]),(g+1,.cells [.i v14]),(g+0,.cells (Pulse.cells a0))] H g5:=hS
     replace hM:zes n a0 a1 (zcK n a0 a1 m5) v12 v13 v14=some r:=hM
     refine Sq ?_
     refine Rg 1 ?_
     refine Oi (.b (decide (v12<(a1.length:Int)))) ?_
     refine Ni ?_
     refine Ws ?_
     refine Sq ?_
     rcases bft (decide (v12<(a1.length:Int))) with hb15 | hb15
     ·replace hM:=ifT hM hb15
      refine Ct hb15 ?_
      refine zaC ?_
      refine Ws ?_
      refine Sq ?_
      refine zaz ?_
      refine Sq ?_
      refine Rg 3 ?_
      obtain ⟨x16,hx16,hM⟩:=zas hM
      refine zbu (xs:=a1) (f:=cI) (z:=v12) (u:=x16) (by decide) rfl rfl zbL hx16 ?_
      refine Olp (.i x16) zaf zap ?_
      refine Oa (.i x16) ?_
      refine Ni ?_
      refine Ws ?_
      refine Sq ?_
      have hS0:=hS
      refine zd1 (n:=9) rfl (by kernel_rfl) ?_
      refine Om (.fn (.func 79) [] [.ptr (g1+0) 0,.ptr (g+1) 0,.ptr (g+0) 0]) ?_
      refine zag (by decide) zgz rfl ?_
      refine zaG (v:=.i a0.Pause) 3 hS (by decide) rfl rfl (.st hS0 3 rfl (by omega)) (po zaf zap) ?_
      refine Om (.i x16) ?_
      refine zag (by decide) zfb rfl ?_
      refine zaG (v:=.i a0.Numbers) 3 hS (by decide) rfl rfl (.st hS0 3 rfl (by omega)) (po zaf zap) ?_
      obtain ⟨q17,hq17,hM⟩:=zas hM
      refine znK (by decide) rfl rfl (zmo hq17) ?_
      refine Oi (.i (w64 (q17+1))) ?_
      obtain ⟨r18,hr18,hM⟩:=zas hM
      have hndr18:=hS.nd_at (ns:=[1,0,2,3]) (M:=[(g1+0,.cells [.sl (.id (g1+1)) 1 (v13.map cI)]),(g1+1,.row 3 v13.length),(g+1,.cells [.i v14]),(g+0,.cells (Pulse.cells a0))]) (M':=[(g1+0,.cells [.sl (.id (g1+1)) 1 (r18.2.1.map cI)]),(g1+1,.row 3 r18.2.1.length),(g+1,.cells [.i r18.2.2]),(g+0,.cells (Pulse.cells a0))]) (.cons rfl (.cons rfl (.cons rfl (.cons rfl .nil)))) (by decide)
      refine zfx (bs:=[.i a0.Pause,.i (w64 (q17+1)),.ptr (g1+0) 0,.ptr (g+1) 0,.ptr (g+0) 0]) (M:=[(g1+0,.cells [.sl (.id (g1+1)) 1 (v13.map cI)]),(g1+1,.row 3 v13.length),(g+1,.cells [.i v14]),(g+0,.cells (Pulse.cells a0))]) (M':=[(g1+0,.cells [.sl (.id (g1+1)) 1 (r18.2.1.map cI)]),(g1+1,.row 3 r18.2.1.length),(g+1,.cells [.i r18.2.2]),(g+0,.cells (Pulse.cells a0))]) (L':=[(g1+1,.row 3 r18.2.1.length),(g1+0,.cells [.sl (.id (g1+1)) 1 (r18.2.1.map cI)]),(g+1,.cells [.i r18.2.2]),(g+0,.cells (Pulse.cells a0))]) [1,0,2,3] (.inr (by kernel_rfl)) hS (by decide) rfl rfl ((zgA (p1:=g1+0) (w1:=g1+1) (p2:=g+1) (p3:=g+0) hndr18 hr18).le (.k (.k (.k (.k (.k .nil)))))) (.cons rfl (.cons rfl (.cons rfl (.cons rfl .nil)))) rfl (by omega) fun H hS=>?_
      refine Ni ?_
      refine Ws ?_
      have hS0:=hS
      refine zd1 (n:=9) rfl (by kernel_rfl) ?_
      refine Om (.fn (.func 79) [] [.ptr (g1+0) 0,.ptr (g+1) 0,.ptr (g+0) 0]) ?_
      refine zag (by decide) zij rfl ?_
      refine zaG (v:=.i a0.Gap) 3 hS (by decide) rfl rfl (.st hS0 3 rfl (by omega)) (po zaf zap) ?_
      refine Om (.i x16) ?_
      refine zag (by decide) zfb rfl ?_
      refine zaG (v:=.i a0.Numbers) 3 hS (by decide) rfl rfl (.st hS0 3 rfl (by omega)) (po zaf zap) ?_
      obtain ⟨q19,hq19,hM⟩:=zas hM
      refine znK (by decide) rfl rfl (zoI hq19) ?_
      refine Oi (.i (w64 (q19+1))) ?_
      obtain ⟨r20,hr20,hM⟩:=zas hM
      have hndr20:=hS.nd_at (ns:=[1,0,2,3]) (M:=[(g1+0,.cells [.sl (.id (g1+1)) 1 (r18.2.1.map cI)]),(g1+1,.row 3 r18.2.1.length),(g+1,.cells [.i r18.2.2]),(g+0,.cells (Pulse.cells a0))]) (M':=[(g1+0,.cells [.sl (.id (g1+1)) 1 (r20.2.1.map cI)]),(g1+1,.row 3 r20.2.1.length),(g+1,.cells [.i r20.2.2]),(g+0,.cells (Pulse.cells a0))]) (.cons rfl (.cons rfl (.cons rfl (.cons rfl .nil)))) (by decide)
      refine zfx (bs:=[.i a0.Gap,.i (w64 (q19+1)),.ptr (g1+0) 0,.ptr (g+1) 0,.ptr (g+0) 0]) (M:=[(g1+0,.cells [.sl (.id (g1+1)) 1 (r18.2.1.map cI)]),(g1+1,.row 3 r18.2.1.length),(g+1,.cells [.i r18.2.2]),(g+0,.cells (Pulse.cells a0))]) (M':=[(g1+0,.cells [.sl (.id (g1+1)) 1 (r20.2.1.map cI)]),(g1+1,.row 3 r20.2.1.length),(g+1,.cells [.i r20.2.2]),(g+0,.cells (Pulse.cells a0))]) (L':=[(g1+1,.row 3 r20.2.1.length),(g1+0,.cells [.sl (.id (g1+1)) 1 (r20.2.1.map cI)]),(g+1,.cells [.i r20.2.2]),(g+0,.cells (Pulse.cells a0))]) [1,0,2,3] (.inr (by kernel_rfl)) hS (by decide) rfl rfl ((zgA (p1:=g1+0) (w1:=g1+1) (p2:=g+1) (p3:=g+0) hndr20 hr20).le (.k (.k (.k (.k (.k .nil)))))) (.cons rfl (.cons rfl (.cons rfl (.cons rfl .nil)))) rfl (by omega) fun H hS=>?_
      refine Ni ?_
      refine zah ?_
      refine Ws ?_
      refine Rg 2 ?_
      refine Oi (.i (w64 (v12+1))) ?_
      refine Om (.i (w64 (v12+1))) ?_
      refine Ni ?_
      exact zbF (w64 (v12+1),r20.2.1,r20.2.2) (Nat.lt_succ_self _) (.k (.k (.k (.k (.k (.k (.k .nil))))))) ⟨(hS.keep [true,true,true,true] rfl).up (by omega),hM⟩
     ·replace hM:=ifF hM hb15
      refine Cf hb15 ?_
      refine zcp ?_
      refine zay ?_
      refine zau ?_
      refine zaD ?_
      exact zak (v13,v14) (.k (.k .nil)) ⟨(hS.keep [true,true,true,false] rfl).up (by omega),hM⟩
  ·refine Rg 13 ?_
   refine Om (.sl .no 1 (a1.map cI)) ?_
   refine zcg (n:=a1.length) (by decide) rfl (List.length_map _) zbA ?_
   refine Oi (.b (decide ((a1.length:Int)>24))) ?_
   refine Om (.b (decide ((a1.length:Int)>24))) ?_
   rcases bft (decide ((a1.length:Int)>24)) with hb21 | hb21
   ·replace hM:=ifT hM hb21
    refine On (want:=false) hb21 ?_
    refine On (want:=false) hb21 ?_
    refine On (want:=false) hb21 ?_
    refine Pt (.b true) hb21 ?_
    refine Om (.b true) ?_
    refine Og ?_
    refine Og ?_
    refine Og ?_
    refine za8 (v:=.b true) (e:=true) (by decide) rfl rfl rfl ?_
    refine Ni ?_
    exact zak true (.k (.k (.k (.k .nil)))) ⟨(hS.keep [false,true,true] rfl).up (by omega),hM⟩
   ·replace hM:=ifF hM hb21
    refine Oy (want:=false) hb21 ?_
    refine zaG (v:=.i a2) 1 hS (by decide) rfl rfl .no (po zaf zap) ?_
    refine Oy (want:=false) hb21 ?_
    obtain ⟨r22,hr22,hM⟩:=zas hM
    refine zaP (bs:=[.i a2]) (by decide) rfl rfl ((zhn hr22).le (.k .nil)) ?_
    refine Oy (want:=false) hb21 ?_
    refine zdW (e:=r22) (by decide) rfl ?_
    refine Pf (.b (!r22)) hb21 ?_
    refine Om (.b (!r22)) ?_
    rcases bft (!r22) with hb23 | hb23
    ·replace hM:=ifT hM hb23
     refine On (want:=false) hb23 ?_
     refine On (want:=false) hb23 ?_
     refine On (want:=false) hb23 ?_
     refine Pt (.b true) hb23 ?_
     refine Ni ?_
     exact zak true (.k (.k (.k (.k .nil)))) ⟨(hS.keep [false,true,true] rfl).up (by omega),hM⟩
    ·replace hM:=ifF hM hb23
     refine Oy (want:=false) hb23 ?_
     refine Om (.sl .no 1 (a1.map cI)) ?_
     refine Oy (want:=false) hb23 ?_
     refine zfP (first:=[]) (cap:=[.ptr (g+4+3+2+2) 0]) (by decide) rfl rfl ?_
     refine Oy (want:=false) hb23 ?_
     obtain ⟨r24,hr24,hM⟩:=zas hM
     have hndr24:=hS.nd_at (ns:=[0]) (M:=[(g+4+3+2+2,.cells (Pulse.cells a0))]) (M':=[(g+4+3+2+2,.cells (Pulse.cells a0))]) (.cons rfl .nil) (by decide)
     have hncr24:=hS.nd_at (ns:=[0]) (M:=[(g+4+3+2+2,.cells (Pulse.cells a0))]) (M':=[(g+4+3+2+2,.cells (Pulse.cells a0))]) (.cons rfl .nil) (by decide)
     refine zfx (bs:=[.sl .no 1 (a1.map cI),.fn (.func 77) [] [.ptr (g+4+3+2+2) 0]]) (M:=[(g+4+3+2+2,.cells (Pulse.cells a0))]) (M':=[(g+4+3+2+2,.cells (Pulse.cells a0))]) (L':=[(g+4+3+2+2,.cells (Pulse.cells a0)),(g+1,.cells [.i a2]),(g+0,.cells (Pulse.cells a0))]) [0] (.inl rfl) hS (by decide) rfl rfl ((zgp (Lo:=(fun (_:Unit)=>[(g+4+3+2+2,.cells (Pulse.cells a0))]))  (fun _ _=>(zbp zeF)) (fun _=>hndr24) (fun s=>(zff (zby (zad (.inl (.inl (.v _))) (zad (.inl (.inl (.v _))) (zad (.inl (.inl (.v _))) (zad (.inl (.inl (.v _))) (zad (.inl (.inl (.v _))) (zad (.inl (.inl (.v _))) (zad (.inl (.inl (.v _))) (zad (.inl (.inl (.sl _ _ (zav (fun x=>(zac (.v _) zaE)))))) zeE)))))))) zfe) ze2)) (aF:=(fun (x0:Int) (_:Unit)=>(zd8 x0 (⟨a0⟩:Train_)).map fun y=>(y,()))) (fun s H hH=>(.fn _ _ _ zgd (zhc (zkn hH 0 rfl) zgd))) rfl (fun h=>zmt (ziN (p1:=g+4+3+2+2)  hncr24 (zia h))) hr24).le (.k (.k .nil))) (.cons rfl .nil) rfl (by omega) fun H hS=>?_
     refine Pf (.b r24.1) hb23 ?_
     refine Ni ?_
     exact zak r24.1 (.k (.k (.k (.k .nil)))) ⟨(hS.keep [false,true,true] rfl).up (by omega),hM⟩
theorem zn0 {n:Nat} {a0:Pulse} {a1:List Int} {r:Pulse×Int} (hM:zi7 n a0 a1=some r):zaJ Try.prog 20 [.agg (Pulse.cells a0),.sl .no 1 (a1.map cI)] (.tup [.agg [.i r.1.Letters,.i r.1.Numbers,.i r.1.Pitch,.i r.1.Slack,.i r.1.Gap,.i r.1.Pause,.i r.1.Sparks,.sl .no 1 (r.1.Times.map cI)],.i r.2]):=by
 refine zax mixed Try.func20 rfl (by decide) Try.ntmps20 (by simp) ?pure fun H0 g hf=>?_
 case pure=>exact .tup _ (zac (.agg _ (zac (.v _) (zac (.v _) (zac (.v _) (zac (.v _) (zac (.v _) (zac (.v _) (zac (.v _) (zac (.sl _ _ (zav (fun x=>(zac (.v _) zaE)))) zaE))))))))) (zac (.v _) zaE))
 rw [zan]
 change wpA _ _ _ _ (Fr.of [(0,.agg (Pulse.cells a0)),(1,.sl .no 1 (a1.map cI))]) H0 g
 have hS:=St.start hf
 refine Sq ?_
 refine Rg 3 ?_
 refine zd2 (v:=.agg (Pulse.cells a0)) (cs:=(Pulse.cells a0)) hS (by decide) rfl rfl (by omega) fun H hS=>?_
 refine zdI hS (by decide) zgu (by omega) fun H hS=>?_
 refine Oa (.i 0) ?_
 refine Ni ?_
 refine zda (L':=[(g+1,.cells [.i 0,.i 0,.i 0,.i 0,.i 0,.i 0,.i 0,.sl .nil 0 []])]) 1 2 hS rfl rfl rfl fun H hS=>?_
 refine Ws ?_
 refine Sq ?_
 refine Rg 4 ?_
 refine Olg (.agg (Pulse.cells a0)) zb7 ?_
 obtain ⟨r1,hr1,hM⟩:=zas hM
 refine zaP (bs:=[.agg (Pulse.cells a0)]) (by decide) rfl rfl ((zlN hr1).le (.k .nil)) ?_
 refine zdI hS (by decide) zgu (by omega) fun H hS=>?_
 refine zaM (v:=.agg (Pulse.cells r1)) (ns:=(Pulse.cells r1)) (L':=[(g+3+2,.cells (Pulse.cells r1)),(g+1,.cells [.i 0,.i 0,.i 0,.i 0,.i 0,.i 0,.i 0,.sl .nil 0 []])]) 0 hS rfl rfl .no rfl rfl zgi nlb rfl fun H hS=>?_
 refine Ni ?_
 refine Ws ?_
 refine Sq ?_
 refine Rg 4 ?_
 refine zag (by decide) zik rfl ?_
 refine zaM (v:=.i 0) (ns:=[.i 0]) (L':=[(g+3+2,.cells [.i r1.Letters,.i r1.Numbers,.i r1.Pitch,.i r1.Slack,.i r1.Gap,.i r1.Pause,.i 0,.sl .no 1 (r1.Times.map cI)]),(g+1,.cells [.i 0,.i 0,.i 0,.i 0,.i 0,.i 0,.i 0,.sl .nil 0 []])]) 0 hS rfl rfl .no rfl rfl zeY nlb rfl fun H hS=>?_
 refine zag (by decide) zdR rfl ?_
 refine zaM (v:=.sl .nil 0 []) (ns:=[.sl .nil 0 []]) (L':=[(g+3+2,.cells [.i r1.Letters,.i r1.Numbers,.i r1.Pitch,.i r1.Slack,.i r1.Gap,.i r1.Pause,.i 0,.sl .nil 0 []]),(g+1,.cells [.i 0,.i 0,.i 0,.i 0,.i 0,.i 0,.i 0,.sl .nil 0 []])]) 0 hS rfl rfl .no rfl rfl zfv nlb rfl fun H hS=>?_
 refine Ni ?_
 refine Ws ?_
 refine Sq ?_
 refine zaO (J:=Bool) (fun j=>[(1,.sl .no 1 (a1.map cI)),(4,.ptr (g+1) 0),(6,.ptr (g+3+2) 0),(21,.b j)]) (fun j H' g'=>St (·<g) H0 [(g+3+2,.cells [.i r1.Letters,.i r1.Numbers,.i r1.Pitch,.i r1.Slack,.i r1.Gap,.i r1.Pause,.i 0,.sl .nil 0 []]),(g+1,.cells [.i 0,.i 0,.i 0,.i 0,.i 0,.i 0,.i 0,.sl .nil 0 []])] H' g'/\zfm n a1 r1 j=some r) ?_ ?_
 ·rintro v2 H g1 ⟨hS,hM⟩
  change wpA _ _ _ _ (Fr.of [(1,.sl .no 1 (a1.map cI)),(4,.ptr (g+1) 0),(6,.ptr (g+3+2) 0),(21,.b v2)]) _ _
  replace hS:St (·<g) H0 [(g+3+2,.cells [.i r1.Letters,.i r1.Numbers,.i r1.Pitch,.i r1.Slack,.i r1.Gap,.i r1.Pause,.i 0,.sl .nil 0 []]),(g+1,.cells [.i 0,.i 0,.i 0,.i 0,.i 0,.i 0,.i 0,.sl .nil 0 []])] H g1:=hS
  replace hM:zfm n a1 r1 v2=some r:=hM
  rcases bft v2 with hb3 | hb3
  ·replace hM:=ifT hM hb3
   refine Ct hb3 ?_
   refine Sq ?_
   refine Rg 3 ?_
   refine zaG (v:=.agg [.i r1.Letters,.i r1.Numbers,.i r1.Pitch,.i r1.Slack,.i r1.Gap,.i r1.Pause,.i 0,.sl .nil 0 []]) 0 hS (by decide) rfl rfl .no (pg zb7) ?_
   refine zaM (v:=.agg [.i r1.Letters,.i r1.Numbers,.i r1.Pitch,.i r1.Slack,.i r1.Gap,.i r1.Pause,.i 0,.sl .nil 0 []]) (ns:=[.i r1.Letters,.i r1.Numbers,.i r1.Pitch,.i r1.Slack,.i r1.Gap,.i r1.Pause,.i 0,.sl .nil 0 []]) (L':=[(g+3+2,.cells [.i r1.Letters,.i r1.Numbers,.i r1.Pitch,.i r1.Slack,.i r1.Gap,.i r1.Pause,.i 0,.sl .nil 0 []]),(g+1,.cells [.i r1.Letters,.i r1.Numbers,.i r1.Pitch,.i r1.Slack,.i r1.Gap,.i r1.Pause,.i 0,.sl .nil 0 []])]) 1 hS rfl rfl .no rfl rfl zgi nlb rfl fun H hS=>?_
   refine Oa (.i 0) ?_
   refine Ni ?_
   replace hS:=hS.keep (L':=[(g+1,.cells [.i r1.Letters,.i r1.Numbers,.i r1.Pitch,.i r1.Slack,.i r1.Gap,.i r1.Pause,.i 0,.sl .nil 0 []])]) [false,true] rfl
   refine Ws ?_
   refine zaQ ?_
   refine zaq ?_
   refine za7 (x:=.tup [.agg [.i r1.Letters,.i r1.Numbers,.i r1.Pitch,.i r1.Slack,.i r1.Gap,.i r1.Pause,.i 0,.sl .nil 0 []],.i 0]) (f:=fun r=>.tup [.agg [.i r.1.Letters,.i r.1.Numbers,.i r.1.Pitch,.i r.1.Slack,.i r.1.Gap,.i r.1.Pause,.i r.1.Sparks,.sl .no 1 (r.1.Times.map cI)],.i r.2]) (.inr rfl) ?_ (.tupL (.cons (.aggL (.k (.k (.k (.k (.k (.k (.k (.cons (.sl0 .nil 1 0) .nil))))))))) (.k .nil))) (Option.some.inj hM) hS
   exact (zc3 (zei (x:=.agg [.i r1.Letters,.i r1.Numbers,.i r1.Pitch,.i r1.Slack,.i r1.Gap,.i r1.Pause,.i 0,.sl .nil 0 []]) 0 hS rfl rfl (pg zb7)) (zai (x:=.i 0) rfl))
  ·replace hM:=ifF hM hb3
   refine Cf hb3 ?_
   refine zaC ?_
   refine Ws ?_
   refine Sq ?_
   have hS0:=hS
   refine zd1 (n:=10) rfl (by kernel_rfl) ?_
   refine zaG (v:=.agg [.i r1.Letters,.i r1.Numbers,.i r1.Pitch,.i r1.Slack,.i r1.Gap,.i r1.Pause,.i 0,.sl .nil 0 []]) 0 hS (by decide) rfl rfl (.st hS0 0 rfl (by omega)) (pg zb7) ?_
   refine zbj (es:=[]) hS (by decide) zbL zeB rfl zeC rfl (by decide) (by omega) fun H hS=>?_
   refine Om (.sl .no 1 (a1.map cI)) ?_
   obtain ⟨l4,hl4,hM⟩:=zas hM
   refine zdJ (xs:=([]:List Int)) (ys:=a1) (zs:=l4) (f:=cI) (L':=[(g1+1,.row 3 l4.length),(g+3+2,.cells [.i r1.Letters,.i r1.Numbers,.i r1.Pitch,.i r1.Slack,.i r1.Gap,.i r1.Pause,.i 0,.sl .nil 0 []]),(g+1,.cells [.i 0,.i 0,.i 0,.i 0,.i 0,.i 0,.i 0,.sl .nil 0 []])]) 0 hS (by decide) rfl rfl rfl rfl (.behind (by kernel_rfl)) zbL zeB zeC hl4 rfl fun H hS=>?_
   obtain ⟨r5,hr5,hM⟩:=zas hM
   refine zaP (bs:=[.agg [.i r1.Letters,.i r1.Numbers,.i r1.Pitch,.i r1.Slack,.i r1.Gap,.i r1.Pause,.i 0,.sl .nil 0 []],.sl (.id (g1+1)) 1 (l4.map cI),.i 0]) (by decide) rfl rfl ((zj1 hr5).le (.cons (.aggL (.k (.k (.k (.k (.k (.k (.k (.cons (.sl0 .nil 1 0) .nil))))))))) (.cons (.sl _ _ _) (.k .nil)))) ?_
   refine Om (.tup [.sl .no 1 (r5.1.map cI),.i r5.2]) ?_
   refine Ox (.sl .no 1 (r5.1.map cI)) ?_
   refine Ox (.i r5.2) ?_
   refine Oa (.sl .no 1 (r5.1.map cI)) ?_
   refine Oa (.i r5.2) ?_
   refine Ni ?_
   replace hS:=hS.keep (L':=[(g+3+2,.cells [.i r1.Letters,.i r1.Numbers,.i r1.Pitch,.i r1.Slack,.i r1.Gap,.i r1.Pause,.i 0,.sl .nil 0 []]),(g+1,.cells [.i 0,.i 0,.i 0,.i 0,.i 0,.i 0,.i 0,.sl .nil 0 []])]) [false,true,true] rfl
   refine Ws ?_
   refine Sq ?_
   refine Sq ?_
   refine Rg 2 ?_
   refine Om (.i r5.2) ?_
   refine Oi (.b (r5.2==131)) ?_
   refine Ni ?_
   refine Ws ?_
   rcases bft (r5.2==131) with hb6 | hb6
   ·replace hM:=ifT hM hb6
    refine Ct hb6 ?_
    refine Sq ?_
    refine Rg 3 ?_
    refine zaG (v:=.agg [.i r1.Letters,.i r1.Numbers,.i r1.Pitch,.i r1.Slack,.i r1.Gap,.i r1.Pause,.i 0,.sl .nil 0 []]) 0 hS (by decide) rfl rfl .no (pg zb7) ?_
    refine zaM (v:=.agg [.i r1.Letters,.i r1.Numbers,.i r1.Pitch,.i r1.Slack,.i r1.Gap,.i r1.Pause,.i 0,.sl .nil 0 []]) (ns:=[.i r1.Letters,.i r1.Numbers,.i r1.Pitch,.i r1.Slack,.i r1.Gap,.i r1.Pause,.i 0,.sl .nil 0 []]) (L':=[(g+3+2,.cells [.i r1.Letters,.i r1.Numbers,.i r1.Pitch,.i r1.Slack,.i r1.Gap,.i r1.Pause,.i 0,.sl .nil 0 []]),(g+1,.cells [.i r1.Letters,.i r1.Numbers,.i r1.Pitch,.i r1.Slack,.i r1.Gap,.i r1.Pause,.i 0,.sl .nil 0 []])]) 1 hS rfl rfl .no rfl rfl zgi nlb rfl fun H hS=>?_
    refine Oa (.i 0) ?_
    refine Ni ?_
    replace hS:=hS.keep (L':=[(g+1,.cells [.i r1.Letters,.i r1.Numbers,.i r1.Pitch,.i r1.Slack,.i r1.Gap,.i r1.Pause,.i 0,.sl .nil 0 []])]) [false,true] rfl
    refine Ws ?_
    refine zaQ ?_
    refine zaq ?_
    refine za7 (x:=.tup [.agg [.i r1.Letters,.i r1.Numbers,.i r1.Pitch,.i r1.Slack,.i r1.Gap,.i r1.Pause,.i 0,.sl .nil 0 []],.i 0]) (f:=fun r=>.tup [.agg [.i r.1.Letters,.i r.1.Numbers,.i r.1.Pitch,.i r.1.Slack,.i r.1.Gap,.i r.1.Pause,.i r.1.Sparks,.sl .no 1 (r.1.Times.map cI)],.i r.2]) (.inr rfl) ?_ (.tupL (.cons (.aggL (.k (.k (.k (.k (.k (.k (.k (.cons (.sl0 .nil 1 0) .nil))))))))) (.k .nil))) (Option.some.inj hM) hS
    exact (zc3 (zei (x:=.agg [.i r1.Letters,.i r1.Numbers,.i r1.Pitch,.i r1.Slack,.i r1.Gap,.i r1.Pause,.i 0,.sl .nil 0 []]) 0 hS rfl rfl (pg zb7)) (zai (x:=.i 0) rfl))
   ·replace hM:=ifF hM hb6
    refine Cf hb6 ?_
    refine zaC ?_
    refine Ws ?_
    refine Sq ?_
    refine Rg 5 ?_
    refine zbj (es:=[]) hS (by decide) zbL zeB rfl zeC rfl (by decide) (by omega) fun H hS=>?_
    refine Om (.sl .no 1 (r5.1.map cI)) ?_
    obtain ⟨l7,hl7,hM⟩:=zas hM
    refine zdJ (xs:=([]:List Int)) (ys:=r5.1) (zs:=l7) (f:=cI) (L':=[(g1+10+2+0,.row 3 l7.length),(g+3+2,.cells [.i r1.Letters,.i r1.Numbers,.i r1.Pitch,.i r1.Slack,.i r1.Gap,.i r1.Pause,.i 0,.sl .nil 0 []]),(g+1,.cells [.i 0,.i 0,.i 0,.i 0,.i 0,.i 0,.i 0,.sl .nil 0 []])]) 0 hS (by decide) rfl rfl rfl rfl .no zbL zeB zeC hl7 rfl fun H hS=>?_
    refine zag (by decide) zdR rfl ?_
    refine zaM (v:=.sl (.id (g1+10+2+0)) 1 (l7.map cI)) (ns:=[.sl (.id (g1+10+2+0)) 1 (l7.map cI)]) (L':=[(g1+10+2+0,.row 3 l7.length),(g+3+2,.cells [.i r1.Letters,.i r1.Numbers,.i r1.Pitch,.i r1.Slack,.i r1.Gap,.i r1.Pause,.i 0,.sl (.id (g1+10+2+0)) 1 (l7.map cI)]),(g+1,.cells [.i 0,.i 0,.i 0,.i 0,.i 0,.i 0,.i 0,.sl .nil 0 []])]) 1 hS rfl rfl .no rfl rfl zfv nlb rfl fun H hS=>?_
    refine Ni ?_
    refine Ws ?_
    refine Sq ?_
    refine zaO (J:=Bool) (fun j=>[(4,.ptr (g+1) 0),(6,.ptr (g+3+2) 0),(49,.b j)]) (fun j H' g'=>St (·<g) H0 [(g1+10+2+0,.row 3 l7.length),(g+3+2,.cells [.i r1.Letters,.i r1.Numbers,.i r1.Pitch,.i r1.Slack,.i r1.Gap,.i r1.Pause,.i 0,.sl (.id (g1+10+2+0)) 1 (l7.map cI)]),(g+1,.cells [.i 0,.i 0,.i 0,.i 0,.i 0,.i 0,.i 0,.sl .nil 0 []])] H' g'/\zf2 r1 l7 j=some r) ?_ ?_
    ·rintro v8 H g2 ⟨hS,hM⟩
     change wpA _ _ _ _ (Fr.of [(4,.ptr (g+1) 0),(6,.ptr (g+3+2) 0),(49,.b v8)]) _ _
     replace hS:St (·<g) H0 [(g1+10+2+0,.row 3 l7.length),(g+3+2,.cells [.i r1.Letters,.i r1.Numbers,.i r1.Pitch,.i r1.Slack,.i r1.Gap,.i r1.Pause,.i 0,.sl (.id (g1+10+2+0)) 1 (l7.map cI)]),(g+1,.cells [.i 0,.i 0,.i 0,.i 0,.i 0,.i 0,.i 0,.sl .nil 0 []])] H g2:=hS
     replace hM:zf2 r1 l7 v8=some r:=hM
     rcases bft v8 with hb9 | hb9
     ·replace hM:=ifT hM hb9
      refine Ct hb9 ?_
      refine Sq ?_
      refine Rg 3 ?_
      refine zaG (v:=.agg [.i r1.Letters,.i r1.Numbers,.i r1.Pitch,.i r1.Slack,.i r1.Gap,.i r1.Pause,.i 0,.sl (.id (g1+10+2+0)) 1 (l7.map cI)]) 1 hS (by decide) rfl rfl .no (pg zb7) ?_
      refine zaM (v:=.agg [.i r1.Letters,.i r1.Numbers,.i r1.Pitch,.i r1.Slack,.i r1.Gap,.i r1.Pause,.i 0,.sl (.id (g1+10+2+0)) 1 (l7.map cI)]) (ns:=[.i r1.Letters,.i r1.Numbers,.i r1.Pitch,.i r1.Slack,.i r1.Gap,.i r1.Pause,.i 0,.sl (.id (g1+10+2+0)) 1 (l7.map cI)]) (L':=[(g1+10+2+0,.row 3 l7.length),(g+3+2,.cells [.i r1.Letters,.i r1.Numbers,.i r1.Pitch,.i r1.Slack,.i r1.Gap,.i r1.Pause,.i 0,.sl (.id (g1+10+2+0)) 1 (l7.map cI)]),(g+1,.cells [.i r1.Letters,.i r1.Numbers,.i r1.Pitch,.i r1.Slack,.i r1.Gap,.i r1.Pause,.i 0,.sl (.id (g1+10+2+0)) 1 (l7.map cI)])]) 2 hS rfl rfl .no rfl rfl zgi nlb rfl fun H hS=>?_
      refine Oa (.i (-1)) ?_
      refine Ni ?_
      replace hS:=hS.keep (L':=[(g1+10+2+0,.row 3 l7.length),(g+1,.cells [.i r1.Letters,.i r1.Numbers,.i r1.Pitch,.i r1.Slack,.i r1.Gap,.i r1.Pause,.i 0,.sl (.id (g1+10+2+0)) 1 (l7.map cI)])]) [true,false,true] rfl
      refine Ws ?_
      refine zaQ ?_
      refine zaq ?_
      refine za7 (x:=.tup [.agg [.i r1.Letters,.i r1.Numbers,.i r1.Pitch,.i r1.Slack,.i r1.Gap,.i r1.Pause,.i 0,.sl (.id (g1+10+2+0)) 1 (l7.map cI)],.i (-1)]) (f:=fun r=>.tup [.agg [.i r.1.Letters,.i r.1.Numbers,.i r.1.Pitch,.i r.1.Slack,.i r.1.Gap,.i r.1.Pause,.i r.1.Sparks,.sl .no 1 (r.1.Times.map cI)],.i r.2]) (.inr rfl) ?_ (.tupL (.cons (.aggL (.k (.k (.k (.k (.k (.k (.k (.cons (.sl _ _ _) .nil))))))))) (.k .nil))) (Option.some.inj hM) hS
      exact (zc3 (zei (x:=.agg [.i r1.Letters,.i r1.Numbers,.i r1.Pitch,.i r1.Slack,.i r1.Gap,.i r1.Pause,.i 0,.sl (.id (g1+10+2+0)) 1 (l7.map cI)]) 1 hS rfl rfl (pg zb7)) (zai (x:=.i (-1)) rfl))
     ·replace hM:=ifF hM hb9
      refine Cf hb9 ?_
      refine zaC ?_
      refine Ws ?_
      refine Sq ?_
      refine Rg 3 ?_
      refine zaG (v:=.agg [.i r1.Letters,.i r1.Numbers,.i r1.Pitch,.i r1.Slack,.i r1.Gap,.i r1.Pause,.i 0,.sl (.id (g1+10+2+0)) 1 (l7.map cI)]) 1 hS (by decide) rfl rfl .no (pg zb7) ?_
      refine zaM (v:=.agg [.i r1.Letters,.i r1.Numbers,.i r1.Pitch,.i r1.Slack,.i r1.Gap,.i r1.Pause,.i 0,.sl (.id (g1+10+2+0)) 1 (l7.map cI)]) (ns:=[.i r1.Letters,.i r1.Numbers,.i r1.Pitch,.i r1.Slack,.i r1.Gap,.i r1.Pause,.i 0,.sl (.id (g1+10+2+0)) 1 (l7.map cI)]) (L':=[(g1+10+2+0,.row 3 l7.length),(g+3+2,.cells [.i r1.Letters,.i r1.Numbers,.i r1.Pitch,.i r1.Slack,.i r1.Gap,.i r1.Pause,.i 0,.sl (.id (g1+10+2+0)) 1 (l7.map cI)]),(g+1,.cells [.i r1.Letters,.i r1.Numbers,.i r1.Pitch,.i r1.Slack,.i r1.Gap,.i r1.Pause,.i 0,.sl (.id (g1+10+2+0)) 1 (l7.map cI)])]) 2 hS rfl rfl .no rfl rfl zgi nlb rfl fun H hS=>?_
      refine Oa (.i 1) ?_
      refine Ni ?_
      replace hS:=hS.keep (L':=[(g1+10+2+0,.row 3 l7.length),(g+1,.cells [.i r1.Letters,.i r1.Numbers,.i r1.Pitch,.i r1.Slack,.i r1.Gap,.i r1.Pause,.i 0,.sl (.id (g1+10+2+0)) 1 (l7.map cI)])]) [true,false,true] rfl
      refine Ws ?_
      refine zaQ ?_
      refine za7 (x:=.tup [.agg [.i r1.Letters,.i r1.Numbers,.i r1.Pitch,.i r1.Slack,.i r1.Gap,.i r1.Pause,.i 0,.sl (.id (g1+10+2+0)) 1 (l7.map cI)],.i 1]) (f:=fun r=>.tup [.agg [.i r.1.Letters,.i r.1.Numbers,.i r.1.Pitch,.i r.1.Slack,.i r.1.Gap,.i r.1.Pause,.i r.1.Sparks,.sl .no 1 (r.1.Times.map cI)],.i r.2]) (.inr rfl) ?_ (.tupL (.cons (.aggL (.k (.k (.k (.k (.k (.k (.k (.cons (.sl _ _ _) .nil))))))))) (.k .nil))) (Option.some.inj hM) hS
      exact (zc3 (zei (x:=.agg [.i r1.Letters,.i r1.Numbers,.i r1.Pitch,.i r1.Slack,.i r1.Gap,.i r1.Pause,.i 0,.sl (.id (g1+10+2+0)) 1 (l7.map cI)]) 1 hS rfl rfl (pg zb7)) (zai (x:=.i 1) rfl))
    ·refine Rg 12 ?_
     refine Om (.i r5.2) ?_
     refine Oi (.b (r5.2 != 0)) ?_
     refine Om (.b (r5.2 != 0)) ?_
     rcases bft (r5.2 != 0) with hb10 | hb10
     ·replace hM:=ifT hM hb10
      refine On (want:=false) hb10 ?_
      refine On (want:=false) hb10 ?_
      refine On (want:=false) hb10 ?_
      refine Pt (.b true) hb10 ?_
      refine Om (.b true) ?_
      refine Og ?_
      refine Og ?_
      refine Og ?_
      refine za8 (v:=.b true) (e:=true) (by decide) rfl rfl rfl ?_
      refine Ni ?_
      exact zak true (.k (.k (.k .nil))) ⟨(hS.keep [true,true,true] rfl).up (by omega),hM⟩
     ·replace hM:=ifF hM hb10
      refine Oy (want:=false) hb10 ?_
      refine Om (.sl .no 1 (r5.1.map cI)) ?_
      refine Oy (want:=false) hb10 ?_
      refine zcg (n:=r5.1.length) (by decide) rfl (List.length_map _) zbA ?_
      refine Oy (want:=false) hb10 ?_
      refine Oi (.b (decide ((r5.1.length:Int)>24))) ?_
      refine Pf (.b (decide ((r5.1.length:Int)>24))) hb10 ?_
      refine Om (.b (decide ((r5.1.length:Int)>24))) ?_
      rcases bft (decide ((r5.1.length:Int)>24)) with hb11 | hb11
      ·replace hM:=ifT hM hb11
       refine On (want:=false) hb11 ?_
       refine On (want:=false) hb11 ?_
       refine On (want:=false) hb11 ?_
       refine Pt (.b true) hb11 ?_
       refine Ni ?_
       exact zak true (.k (.k (.k .nil))) ⟨(hS.keep [true,true,true] rfl).up (by omega),hM⟩
      ·replace hM:=ifF hM hb11
       refine Oy (want:=false) hb11 ?_
       refine zaG (v:=.agg [.i r1.Letters,.i r1.Numbers,.i r1.Pitch,.i r1.Slack,.i r1.Gap,.i r1.Pause,.i 0,.sl (.id (g1+10+2+0)) 1 (l7.map cI)]) 1 hS (by decide) rfl rfl .no (pg zb7) ?_
       refine Oy (want:=false) hb11 ?_
       obtain ⟨r12,hr12,hM⟩:=zas hM
       refine zaP (bs:=[.agg [.i r1.Letters,.i r1.Numbers,.i r1.Pitch,.i r1.Slack,.i r1.Gap,.i r1.Pause,.i 0,.sl (.id (g1+10+2+0)) 1 (l7.map cI)]]) (by decide) rfl rfl ((ziq hr12).le (.cons (.aggL (.k (.k (.k (.k (.k (.k (.k (.cons (.sl _ _ _) .nil))))))))) .nil)) ?_
       refine Oy (want:=false) hb11 ?_
       refine Oi (.b (r12 != 0)) ?_
       refine Pf (.b (r12 != 0)) hb11 ?_
       refine Ni ?_
       exact zak (r12 != 0) (.k (.k (.k .nil))) ⟨(hS.keep [true,true,true] rfl).up (by omega),hM⟩
 ·refine Rg 9 ?_
  refine zaG (v:=.agg [.i r1.Letters,.i r1.Numbers,.i r1.Pitch,.i r1.Slack,.i r1.Gap,.i r1.Pause,.i 0,.sl .nil 0 []]) 0 hS (by decide) rfl rfl .no (pg zb7) ?_
  obtain ⟨r13,hr13,hM⟩:=zas hM
  refine zaP (bs:=[.agg [.i r1.Letters,.i r1.Numbers,.i r1.Pitch,.i r1.Slack,.i r1.Gap,.i r1.Pause,.i 0,.sl .nil 0 []]]) (by decide) rfl rfl ((ziq hr13).le (.cons (.aggL (.k (.k (.k (.k (.k (.k (.k (.cons (.sl0 .nil 1 0) .nil))))))))) .nil)) ?_
  refine Oi (.b (r13 != 0)) ?_
  refine Om (.b (r13 != 0)) ?_
  rcases bft (r13 != 0) with hb14 | hb14
  ·replace hM:=ifT hM hb14
   refine On (want:=false) hb14 ?_
   refine On (want:=false) hb14 ?_
   refine On (want:=false) hb14 ?_
   refine On (want:=false) hb14 ?_
   refine Pt (.b true) hb14 ?_
   refine Ni ?_
   exact zak true (.k (.k (.k (.k .nil)))) ⟨(hS.keep [true,true] rfl).up (by omega),hM⟩
  ·replace hM:=ifF hM hb14
   refine Oy (want:=false) hb14 ?_
   refine zaG (v:=.agg [.i r1.Letters,.i r1.Numbers,.i r1.Pitch,.i r1.Slack,.i r1.Gap,.i r1.Pause,.i 0,.sl .nil 0 []]) 0 hS (by decide) rfl rfl .no (pg zb7) ?_
   refine Oy (want:=false) hb14 ?_
   refine Om (.sl .no 1 (a1.map cI)) ?_
   refine Oy (want:=false) hb14 ?_
   obtain ⟨r15,hr15,hM⟩:=zas hM
   refine zaP (bs:=[.agg [.i r1.Letters,.i r1.Numbers,.i r1.Pitch,.i r1.Slack,.i r1.Gap,.i r1.Pause,.i 0,.sl .nil 0 []],.sl .no 1 (a1.map cI)]) (by decide) rfl rfl ((zj0 hr15).le (.cons (.aggL (.k (.k (.k (.k (.k (.k (.k (.cons (.sl0 .nil 1 0) .nil))))))))) (.k .nil))) ?_
   refine Oy (want:=false) hb14 ?_
   refine zdW (e:=r15) (by decide) rfl ?_
   refine Pf (.b (!r15)) hb14 ?_
   refine Ni ?_
   exact zak (!r15) (.k (.k (.k (.k .nil)))) ⟨(hS.keep [true,true] rfl).up (by omega),hM⟩
theorem ziO {n:Nat} {a0:List Int} {a1:Int} {r:Bool} (hM:zif n a0 a1=some r):zaJ Try.prog 23 [.sl .no 1 (a0.map cI),.i a1] (.b r):=by
 refine zax mixed Try.func23 rfl (by decide) Try.ntmps23 (by simp) ?pure fun H0 g hf=>?_
 case pure=>exact .v _
 rw [zan]
 change wpA _ _ _ _ (Fr.of [(0,.sl .no 1 (a0.map cI)),(1,.i a1)]) H0 g
 have hS:=St.start hf
 refine Sq ?_
 refine Rg 1 ?_
 refine Oa (.b false) ?_
 refine Ni ?_
 refine Ws ?_
 refine zaO (J:=Unit) (fun j=>[]) (fun j H' g'=>St (·<g) H0 [] H' g'/\zgM=some r) ?_ ?_
 ·rintro _ H g1 ⟨hS,hM⟩
  change wpA _ _ _ _ (Fr.of []) _ _
  replace hS:St (·<g) H0 [] H g1:=hS
  replace hM:zgM=some r:=hM
  refine Sq ?_
  refine Rg 1 ?_
  refine Oa (.b false) ?_
  refine Ni ?_
  refine Ws ?_
  refine zaQ ?_
  refine za7 (x:=.b false) (f:=fun r=>.b r) (.inr rfl) ?_ (.refl _) (Option.some.inj hM) hS
  exact (zaw (zai (x:=.b false) rfl))
 ·refine Sq ?_
  refine Rg 1 ?_
  refine Oa (.i 0) ?_
  refine Ni ?_
  refine Ws ?_
  refine zaz ?_
  refine zcx (V:=Int) (fun v=>[(0,.sl .no 1 (a0.map cI)),(1,.i a1),(5,.i v)]) (fun v m2 H' g'=>St (·<g) H0 [] H' g'/\zeX a0 a1 m2 v=some r) (n:=n) 0 (.k (.k (.k .nil))) ⟨(hS.keep [] rfl).up (by omega),hM⟩ ?_
  rintro v1 m2 H g2 ⟨hS,hM⟩
  obtain _ | m2:=m2
  ·exact nomatch (show none=some _ from hM)
  change wpA _ _ _ _ (Fr.of [(0,.sl .no 1 (a0.map cI)),(1,.i a1),(5,.i v1)]) _ _
  replace hS:St (·<g) H0 [] H g2:=hS
  replace hM:zfL a0 a1 (zeX a0 a1 m2) v1=some r:=hM
  refine Sq ?_
  refine Sq ?_
  refine Rg 4 ?_
  refine Om (.i v1) ?_
  refine Om (.sl .no 1 (a0.map cI)) ?_
  refine zcg (n:=a0.length) (by decide) rfl (List.length_map _) zbA ?_
  refine Oi (.b (decide (v1<(a0.length:Int)))) ?_
  refine Ni ?_
  refine Ws ?_
  rcases bft (decide (v1<(a0.length:Int))) with hb2 | hb2
  ·replace hM:=ifT hM hb2
   refine Ct hb2 ?_
   refine zaC ?_
   refine Ws ?_
   refine Sq ?_
   refine zaz ?_
   refine Sq ?_
   refine Rg 6 ?_
   refine Om (.sl .no 1 (a0.map cI)) ?_
   refine Om (.i v1) ?_
   obtain ⟨x3,hx3,hM⟩:=zas hM
   refine zbu (xs:=a0) (f:=cI) (z:=v1) (u:=x3) (by decide) rfl rfl zbL hx3 ?_
   refine Olp (.i x3) zaf zap ?_
   refine Om (.i a1) ?_
   refine Oi (.b (x3==a1)) ?_
   refine Ni ?_
   refine Ws ?_
   rcases bft (x3==a1) with hb4 | hb4
   ·replace hM:=ifT hM hb4
    refine Ct hb4 ?_
    refine Sq ?_
    refine Rg 1 ?_
    refine Oa (.b true) ?_
    refine Ni ?_
    refine Ws ?_
    refine zaQ ?_
    refine zaI ?_
    refine zaq ?_
    refine zbs ?_
    refine zaI ?_
    refine zbr ?_
    refine za7 (x:=.b true) (f:=fun r=>.b r) (.inr rfl) ?_ (.refl _) (Option.some.inj hM) hS
    exact (zaw (zai (x:=.b true) rfl))
   ·replace hM:=ifF hM hb4
    refine Cf hb4 ?_
    refine zaC ?_
    refine zah ?_
    refine Ws ?_
    refine Rg 3 ?_
    refine Om (.i v1) ?_
    refine Oi (.i (w64 (v1+1))) ?_
    refine Oa (.i (w64 (v1+1))) ?_
    refine Ni ?_
    exact zbF (w64 (v1+1)) (Nat.lt_succ_self _) (.k (.k (.k .nil))) ⟨(hS.keep [] rfl).up (by omega),hM⟩
  ·replace hM:=ifF hM hb2
   refine Cf hb2 ?_
   refine zcp ?_
   refine zay ?_
   refine zau ?_
   refine zaD ?_
   exact zak () .nil ⟨(hS.keep [] rfl).up (by omega),hM⟩
theorem zk4 {n:Nat} {a0:Pulse} {a1:List Int} {a2:Tray} {r:Bool} (hM:zhY n a0 a1 a2=some r):zaJ Try.prog 5 [.agg (Pulse.cells a0),.sl .no 1 (a1.map cI),.agg (Tray.cells a2)] (.b r):=by
 refine zax mixed Try.func5 rfl (by decide) Try.ntmps5 (by simp) ?pure fun H0 g hf=>?_
 case pure=>exact .v _
 rw [zan]
 change wpA _ _ _ _ (Fr.of [(0,.agg (Pulse.cells a0)),(1,.sl .no 1 (a1.map cI)),(2,.agg (Tray.cells a2))]) H0 g
 have hS:=St.start hf
 refine Sq ?_
 refine Rg 3 ?_
 refine zd2 (v:=.agg (Pulse.cells a0)) (cs:=(Pulse.cells a0)) hS (by decide) rfl rfl (by omega) fun H hS=>?_
 refine zd2 (v:=.agg (Tray.cells a2)) (cs:=(Tray.cells a2)) hS (by decide) rfl rfl (by omega) fun H hS=>?_
 refine Oa (.b false) ?_
 refine Ni ?_
 refine zda (L':=[(g+0,.cells (Pulse.cells a0))]) 0 5 hS rfl rfl rfl fun H hS=>?_
 refine Ws ?_
 refine Sq ?_
 refine zaO (J:=Bool) (fun j=>[(1,.sl .no 1 (a1.map cI)),(3,.ptr (g+0) 0),(5,.ep (Tray.cells a2)),(41,.b j)]) (fun j H' g'=>St (·<g) H0 [(g+0,.cells (Pulse.cells a0))] H' g'/\zce n a0 a1 a2 j=some r) ?_ ?_
 ·rintro v1 H g1 ⟨hS,hM⟩
  change wpA _ _ _ _ (Fr.of [(1,.sl .no 1 (a1.map cI)),(3,.ptr (g+0) 0),(5,.ep (Tray.cells a2)),(41,.b v1)]) _ _
  replace hS:St (·<g) H0 [(g+0,.cells (Pulse.cells a0))] H g1:=hS
  replace hM:zce n a0 a1 a2 v1=some r:=hM
  rcases bft v1 with hb2 | hb2
  ·replace hM:=ifT hM hb2
   refine Ct hb2 ?_
   refine Sq ?_
   refine Rg 2 ?_
   obtain ⟨r3,hr3,hM⟩:=zas hM
   refine zaP (bs:=[]) (by decide) rfl rfl ((zhm hr3).le .nil) ?_
   refine Oa (.b r3) ?_
   refine Ni ?_
   replace hS:=hS.keep (L':=[]) [false] rfl
   refine Ws ?_
   refine zaQ ?_
   refine zaq ?_
   refine za7 (x:=.b r3) (f:=fun r=>.b r) (.inr rfl) ?_ (.refl _) (Option.some.inj hM) hS
   exact (zaw (zai (x:=.b r3) rfl))
  ·replace hM:=ifF hM hb2
   refine Cf hb2 ?_
   refine zaC ?_
   refine Ws ?_
   refine Sq ?_
   refine Rg 7 ?_
   refine Of ((Tray.cells a2)) zbY ?_
   refine Olp (.sl .no 2 (a2.Records.map TrayRecord.cells)) zcP zdB ?_
   refine zcg (n:=a2.Records.length) (by decide) rfl (List.length_map _) zdM ?_
   refine zag (by decide) zgx rfl ?_
   refine zaM (v:=.i (a2.Records.length:Int)) (ns:=[.i (a2.Records.length:Int)]) (L':=[(g+0,.cells [.i (a2.Records.length:Int),.i a0.Numbers,.i a0.Pitch,.i a0.Slack,.i a0.Gap,.i a0.Pause,.i a0.Sparks,.sl .no 1 (a0.Times.map cI)])]) 0 hS rfl rfl .no rfl rfl zeY nlb rfl fun H hS=>?_
   refine zag (by decide) zfb rfl ?_
   refine zaM (v:=.i 2) (ns:=[.i 2]) (L':=[(g+0,.cells [.i (a2.Records.length:Int),.i 2,.i a0.Pitch,.i a0.Slack,.i a0.Gap,.i a0.Pause,.i a0.Sparks,.sl .no 1 (a0.Times.map cI)])]) 0 hS rfl rfl .no rfl rfl zeY nlb rfl fun H hS=>?_
   refine Ni ?_
   refine Ws ?_
   refine Sq ?_
   refine Rg 9 ?_
   refine zaG (v:=.agg [.i (a2.Records.length:Int),.i 2,.i a0.Pitch,.i a0.Slack,.i a0.Gap,.i a0.Pause,.i a0.Sparks,.sl .no 1 (a0.Times.map cI)]) 0 hS (by decide) rfl rfl .no (pg zb7) ?_
   refine Om (.sl .no 1 (a1.map cI)) ?_
   obtain ⟨r4,hr4,hM⟩:=zas hM
   refine zaP (bs:=[.agg [.i (a2.Records.length:Int),.i 2,.i a0.Pitch,.i a0.Slack,.i a0.Gap,.i a0.Pause,.i a0.Sparks,.sl .no 1 (a0.Times.map cI)],.sl .no 1 (a1.map cI)]) (by decide) rfl rfl ((zn0 hr4).le (.k (.k .nil))) ?_
   refine Om (.tup [.agg (Pulse.cells r4.1),.i r4.2]) ?_
   refine Ox (.agg (Pulse.cells r4.1)) ?_
   refine Ox (.i r4.2) ?_
   refine zdI hS (by decide) zgu (by omega) fun H hS=>?_
   refine zaM (v:=.agg (Pulse.cells r4.1)) (ns:=(Pulse.cells r4.1)) (L':=[(g1+7+6,.cells (Pulse.cells r4.1)),(g+0,.cells [.i (a2.Records.length:Int),.i 2,.i a0.Pitch,.i a0.Slack,.i a0.Gap,.i a0.Pause,.i a0.Sparks,.sl .no 1 (a0.Times.map cI)])]) 0 hS rfl rfl .no rfl rfl zgi nlb rfl fun H hS=>?_
   refine Oa (.i r4.2) ?_
   refine Ni ?_
   refine zda (L':=[(g+0,.cells [.i (a2.Records.length:Int),.i 2,.i a0.Pitch,.i a0.Slack,.i a0.Gap,.i a0.Pause,.i a0.Sparks,.sl .no 1 (a0.Times.map cI)])]) 0 7 hS rfl rfl rfl fun H hS=>?_
   replace hS:=hS.keep (L':=[]) [false] rfl
   refine Ws ?_
   refine Sq ?_
   refine Sq ?_
   refine Rg 2 ?_
   refine Om (.i r4.2) ?_
   refine Oi (.b (decide (r4.2<1))) ?_
   refine Ni ?_
   refine Ws ?_
   rcases bft (decide (r4.2<1)) with hb5 | hb5
   ·replace hM:=ifT hM hb5
    refine Ct hb5 ?_
    refine zaO (J:=Bool) (fun j=>[(6,.b j)]) (fun j H' g'=>St (·<g) H0 [] H' g'/\zfs j=some r) ?_ ?_
    ·rintro v6 H g2 ⟨hS,hM⟩
     change wpA _ _ _ _ (Fr.of [(6,.b v6)]) _ _
     replace hS:St (·<g) H0 [] H g2:=hS
     replace hM:zfs v6=some r:=hM
     refine zaQ ?_
     refine zaq ?_
     refine za7 (x:=.b v6) (f:=fun r=>.b r) (.inr rfl) ?_ (.refl _) (Option.some.inj hM) hS
     exact (zaw (zai (x:=.b v6) rfl))
    ·refine Rg 6 ?_
     refine Om (.i r4.2) ?_
     refine Oi (.b (r4.2==0)) ?_
     refine Om (.b (r4.2==0)) ?_
     rcases bft (r4.2==0) with hb7 | hb7
     ·replace hM:=ifT hM hb7
      refine Oy (want:=true) hb7 ?_
      obtain ⟨r8,hr8,hM⟩:=zas hM
      refine zaP (bs:=[]) (by decide) rfl rfl ((zhm hr8).le .nil) ?_
      refine Pt (.b r8) hb7 ?_
      refine Oa (.b r8) ?_
      refine Ni ?_
      exact zak r8 (.k .nil) ⟨(hS.keep [] rfl).up (by omega),hM⟩
     ·replace hM:=ifF hM hb7
      refine On (want:=true) hb7 ?_
      refine Pf (.b false) hb7 ?_
      refine Oa (.b false) ?_
      refine Ni ?_
      exact zak false (.k .nil) ⟨(hS.keep [] rfl).up (by omega),hM⟩
   ·replace hM:=ifF hM hb5
    refine Cf hb5 ?_
    refine zaC ?_
    refine Ws ?_
    refine Sq ?_
    refine Rg 7 ?_
    refine Olg (.agg (Pulse.cells r4.1)) zb7 ?_
    obtain ⟨r9,hr9,hM⟩:=zas hM
    refine zaP (bs:=[.agg (Pulse.cells r4.1)]) (by decide) rfl rfl ((zio hr9).le (.k .nil)) ?_
    refine Om (.tup [.sl .no 1 (r9.1.map cI),.i r9.2]) ?_
    refine Ox (.sl .no 1 (r9.1.map cI)) ?_
    refine Ox (.i r9.2) ?_
    refine Oa (.sl .no 1 (r9.1.map cI)) ?_
    refine Oa (.i r9.2) ?_
    refine Ni ?_
    refine Ws ?_
    refine Sq ?_
    refine zaO (J:=Bool) (fun j=>[(5,.ep (Tray.cells a2)),(9,.sl .no 1 (r9.1.map cI)),(73,.b j)]) (fun j H' g'=>St (·<g) H0 [] H' g'/\zeM n a2 r9 j=some r) ?_ ?_
    ·rintro v10 H g3 ⟨hS,hM⟩
     change wpA _ _ _ _ (Fr.of [(5,.ep (Tray.cells a2)),(9,.sl .no 1 (r9.1.map cI)),(73,.b v10)]) _ _
     replace hS:St (·<g) H0 [] H g3:=hS
     replace hM:zeM n a2 r9 v10=some r:=hM
     rcases bft v10 with hb11 | hb11
     ·replace hM:=ifT hM hb11
      refine Ct hb11 ?_
      refine Sq ?_
      refine Rg 1 ?_
      refine Oa (.b false) ?_
      refine Ni ?_
      refine Ws ?_
      refine zaQ ?_
      refine zaq ?_
      refine za7 (x:=.b false) (f:=fun r=>.b r) (.inr rfl) ?_ (.refl _) (Option.some.inj hM) hS
      exact (zaw (zai (x:=.b false) rfl))
     ·replace hM:=ifF hM hb11
      refine Cf hb11 ?_
      refine zaC ?_
      refine Ws ?_
      refine Sq ?_
      refine Rg 4 ?_
      refine Olg (.agg (Tray.cells a2)) zdV ?_
      obtain ⟨r12,hr12,hM⟩:=zas hM
      refine zaP (bs:=[.agg (Tray.cells a2)]) (by decide) rfl rfl ((zlJ hr12).le (.k .nil)) ?_
      refine zdI hS (by decide) zjE (by omega) fun H hS=>?_
      refine zaM (v:=.agg (Tray.cells r12)) (ns:=(Tray.cells r12)) (L':=[(g3+2,.cells (Tray.cells r12))]) 0 hS rfl rfl .no rfl rfl zkX nlb rfl fun H hS=>?_
      refine Ni ?_
      refine Ws ?_
      refine Sq ?_
      refine Rg 2 ?_
      refine zag (by decide) zdk rfl ?_
      refine zaM (v:=.sl .nil 0 []) (ns:=[.sl .nil 0 []]) (L':=[(g3+2,.cells [.sl .no 2 (r12.Records.map TrayRecord.cells),.i r12.At,.i r12.Way,.i r12.Step,.sl .nil 0 []])]) 0 hS rfl rfl .no rfl rfl zi8 nlb rfl fun H hS=>?_
      refine Ni ?_
      refine zha (cs':=[.sl .no 2 (r12.Records.map TrayRecord.cells),.i r12.At,.i r12.Way,.i r12.Step,.sl (.id (g3+4+2)) 2 (([]:List TrayPress).map TrayPress.cells)]) (L':=[(g3+2,.cells [.sl .no 2 (r12.Records.map TrayRecord.cells),.i r12.At,.i r12.Way,.i r12.Step,.sl (.id (g3+4+2)) 2 (([]:List TrayPress).map TrayPress.cells)])]) 0 4 2 55 hS (by omega) (by decide) rfl rfl rfl rfl fun H hS=>?_
      refine Ws ?_
      refine zaO (J:=(List TrayPress)) (fun j=>[(9,.sl .no 1 (r9.1.map cI)),(11,.ptr (g3+2) 0)]) (fun j H' g'=>St (·<g) H0 [(g3+4+2,.row 55 j.length),(g3+2,.cells [.sl .no 2 (r12.Records.map TrayRecord.cells),.i r12.At,.i r12.Way,.i r12.Step,.sl (.id (g3+4+2)) 2 (j.map TrayPress.cells)])] H' g'/\zeL n r9 r12 j=some r) ?_ ?_
      ·rintro v13 H g4 ⟨hS,hM⟩
       change wpA _ _ _ _ (Fr.of [(9,.sl .no 1 (r9.1.map cI)),(11,.ptr (g3+2) 0)]) _ _
       replace hS:St (·<g) H0 [(g3+4+2,.row 55 v13.length),(g3+2,.cells [.sl .no 2 (r12.Records.map TrayRecord.cells),.i r12.At,.i r12.Way,.i r12.Step,.sl (.id (g3+4+2)) 2 (v13.map TrayPress.cells)])] H g4:=hS
       replace hM:zeL n r9 r12 v13=some r:=hM
       refine Sq ?_
       refine Rg 7 ?_
       refine zaG (v:=.agg [.sl .no 2 (r12.Records.map TrayRecord.cells),.i r12.At,.i r12.Way,.i r12.Step,.sl (.id (g3+4+2)) 2 (v13.map TrayPress.cells)]) 1 hS (by decide) rfl rfl .no (pg zdV) ?_
       obtain ⟨r14,hr14,hM⟩:=zas hM
       refine zaP (bs:=[.agg [.sl .no 2 (r12.Records.map TrayRecord.cells),.i r12.At,.i r12.Way,.i r12.Step,.sl (.id (g3+4+2)) 2 (v13.map TrayPress.cells)]]) (by decide) rfl rfl ((zlL hr14).le (.cons (.aggL (.k (.k (.k (.k (.cons (.sl _ _ _) .nil)))))) .nil)) ?_
       refine Om (.tup [.sl .no 2 (r14.1.map TrayPlay.cells),.i r14.2]) ?_
       refine Ox (.sl .no 2 (r14.1.map TrayPlay.cells)) ?_
       refine Ox (.i r14.2) ?_
       refine Oa (.sl .no 2 (r14.1.map TrayPlay.cells)) ?_
       refine Oa (.i r14.2) ?_
       refine Ni ?_
       replace hS:=hS.keep (L':=[]) [false,false] rfl
       refine Ws ?_
       refine Sq ?_
       refine zaO (J:=Bool) (fun j=>[(9,.sl .no 1 (r9.1.map cI)),(13,.sl .no 2 (r14.1.map TrayPlay.cells)),(106,.b j)]) (fun j H' g'=>St (·<g) H0 [] H' g'/\zeK n r9 r14 j=some r) ?_ ?_
       ·rintro v15 H g5 ⟨hS,hM⟩
        change wpA _ _ _ _ (Fr.of [(9,.sl .no 1 (r9.1.map cI)),(13,.sl .no 2 (r14.1.map TrayPlay.cells)),(106,.b v15)]) _ _
        replace hS:St (·<g) H0 [] H g5:=hS
        replace hM:zeK n r9 r14 v15=some r:=hM
        rcases bft v15 with hb16 | hb16
        ·replace hM:=ifT hM hb16
         refine Ct hb16 ?_
         refine Sq ?_
         refine Rg 1 ?_
         refine Oa (.b false) ?_
         refine Ni ?_
         refine Ws ?_
         refine zaQ ?_
         refine zaq ?_
         refine za7 (x:=.b false) (f:=fun r=>.b r) (.inr rfl) ?_ (.refl _) (Option.some.inj hM) hS
         exact (zaw (zai (x:=.b false) rfl))
        ·replace hM:=ifF hM hb16
         refine Cf hb16 ?_
         refine zaC ?_
         refine Ws ?_
         refine Sq ?_
         refine Rg 1 ?_
         refine Oa (.sl .nil 0 []) ?_
         refine Ni ?_
         refine zp0 [(9,.sl .no 1 (r9.1.map cI)),(13,.sl .no 2 (r14.1.map TrayPlay.cells)),(15,.sl (.id (g5+1)) 1 (([]:List Int).map cI))] 15 1 3 hS (by omega) (by decide) rfl (.k (.k (.k .nil))) fun H hS=>?_
         refine zaO (J:=(List Int)) (fun j=>[(9,.sl .no 1 (r9.1.map cI)),(15,.sl (.id (g5+1)) 1 (j.map cI))]) (fun j H' g'=>St (·<g) H0 [(g5+1,.row 3 j.length)] H' g'/\zfu n r9 j=some r) ?_ ?_
         ·rintro v17 H g6 ⟨hS,hM⟩
          change wpA _ _ _ _ (Fr.of [(9,.sl .no 1 (r9.1.map cI)),(15,.sl (.id (g5+1)) 1 (v17.map cI))]) _ _
          replace hS:St (·<g) H0 [(g5+1,.row 3 v17.length)] H g6:=hS
          replace hM:zfu n r9 v17=some r:=hM
          refine zaO (J:=Unit) (fun j=>[]) (fun j H' g'=>St (·<g) H0 [] H' g'/\zft n=some r) ?_ ?_
          ·rintro _ H g7 ⟨hS,hM⟩
           change wpA _ _ _ _ (Fr.of []) _ _
           replace hS:St (·<g) H0 [] H g7:=hS
           replace hM:zft n=some r:=hM
           refine Sq ?_
           refine Rg 2 ?_
           obtain ⟨r18,hr18,hM⟩:=zas hM
           refine zaP (bs:=[]) (by decide) rfl rfl ((zhm hr18).le .nil) ?_
           refine Oa (.b r18) ?_
           refine Ni ?_
           refine Ws ?_
           refine zaQ ?_
           refine za7 (x:=.b r18) (f:=fun r=>.b r) (.inr rfl) ?_ (.refl _) (Option.some.inj hM) hS
           exact (zaw (zai (x:=.b r18) rfl))
          ·refine Sq ?_
           refine Rg 1 ?_
           refine Oa (.i 0) ?_
           refine Ni ?_
           refine Ws ?_
           refine zaz ?_
           refine zcx (V:=Int) (fun v=>[(9,.sl .no 1 (r9.1.map cI)),(15,.sl (.id (g5+1)) 1 (v17.map cI)),(17,.i v)]) (fun v m8 H' g'=>St (·<g) H0 [(g5+1,.row 3 v17.length)] H' g'/\zdn n r9 v17 m8 v=some r) (n:=n) 0 (.k (.k (.k .nil))) ⟨(hS.keep [true] rfl).up (by omega),hM⟩ ?_
           rintro v19 m8 H g8 ⟨hS,hM⟩
           obtain _ | m8:=m8
           ·exact nomatch (show none=some _ from hM)
           change wpA _ _ _ _ (Fr.of [(9,.sl .no 1 (r9.1.map cI)),(15,.sl (.id (g5+1)) 1 (v17.map cI)),(17,.i v19)]) _ _
           replace hS:St (·<g) H0 [(g5+1,.row 3 v17.length)] H g8:=hS
           replace hM:zeS n r9 v17 (zdn n r9 v17 m8) v19=some r:=hM
           refine Sq ?_
           refine Sq ?_
           refine Rg 4 ?_
           refine Om (.i v19) ?_
           refine Om (.sl .no 1 (r9.1.map cI)) ?_
           refine zcg (n:=r9.1.length) (by decide) rfl (List.length_map _) zbA ?_
           refine Oi (.b (decide (v19<(r9.1.length:Int)))) ?_
           refine Ni ?_
           refine Ws ?_
           rcases bft (decide (v19<(r9.1.length:Int))) with hb20 | hb20
           ·replace hM:=ifT hM hb20
            refine Ct hb20 ?_
            refine zaC ?_
            refine Ws ?_
            refine Sq ?_
            refine zaz ?_
            refine Sq ?_
            refine Rg 7 ?_
            refine Om (.sl (.id (g5+1)) 1 (v17.map cI)) ?_
            refine Om (.sl .no 1 (r9.1.map cI)) ?_
            refine Om (.i v19) ?_
            obtain ⟨x21,hx21,hM⟩:=zas hM
            refine zbu (xs:=r9.1) (f:=cI) (z:=v19) (u:=x21) (by decide) rfl rfl zbL hx21 ?_
            refine Olp (.i x21) zaf zap ?_
            obtain ⟨r22,hr22,hM⟩:=zas hM
            refine zaP (bs:=[.sl (.id (g5+1)) 1 (v17.map cI),.i x21]) (by decide) rfl rfl ((ziO hr22).le (.cons (.sl _ _ _) (.k .nil))) ?_
            refine zdW (e:=r22) (by decide) rfl ?_
            refine Ni ?_
            refine Ws ?_
            rcases bft (!r22) with hb23 | hb23
            ·replace hM:=ifT hM hb23
             refine Ct hb23 ?_
             refine Sq ?_
             refine Rg 1 ?_
             refine Oa (.b false) ?_
             refine Ni ?_
             replace hS:=hS.keep (L':=[]) [false] rfl
             refine Ws ?_
             refine zaQ ?_
             refine zaI ?_
             refine zaq ?_
             refine zbs ?_
             refine zaI ?_
             refine zbr ?_
             refine za7 (x:=.b false) (f:=fun r=>.b r) (.inr rfl) ?_ (.refl _) (Option.some.inj hM) hS
             exact (zaw (zai (x:=.b false) rfl))
            ·replace hM:=ifF hM hb23
             refine Cf hb23 ?_
             refine zaC ?_
             refine zah ?_
             refine Ws ?_
             refine Rg 3 ?_
             refine Om (.i v19) ?_
             refine Oi (.i (w64 (v19+1))) ?_
             refine Oa (.i (w64 (v19+1))) ?_
             refine Ni ?_
             exact zbF (w64 (v19+1)) (Nat.lt_succ_self _) (.k (.k (.k .nil))) ⟨(hS.keep [true] rfl).up (by omega),hM⟩
           ·replace hM:=ifF hM hb20
            refine Cf hb20 ?_
            refine zcp ?_
            refine zay ?_
            refine zau ?_
            refine zaD ?_
            exact zak () .nil ⟨(hS.keep [false] rfl).up (by omega),hM⟩
         ·refine Sq ?_
          refine Rg 1 ?_
          refine Oa (.i 0) ?_
          refine Ni ?_
          refine Ws ?_
          refine zaz ?_
          refine zcx (V:=(List Int)×Int) (fun v=>[(9,.sl .no 1 (r9.1.map cI)),(13,.sl .no 2 (r14.1.map TrayPlay.cells)),(15,.sl (.id (g5+1)) 1 (v.1.map cI)),(16,.i v.2)]) (fun v m9 H' g'=>St (·<g) H0 [(g5+1,.row 3 v.1.length)] H' g'/\zcG n r9 r14 m9 v.1 v.2=some r) (n:=n) (([]:List Int),0) (.k (.k (.k (.k .nil)))) ⟨(hS.keep [true] rfl).up (by omega),hM⟩ ?_
          rintro ⟨v24,v25⟩ m9 H g9 ⟨hS,hM⟩
          obtain _ | m9:=m9
          ·exact nomatch (show none=some _ from hM)
          change wpA _ _ _ _ (Fr.of [(9,.sl .no 1 (r9.1.map cI)),(13,.sl .no 2 (r14.1.map TrayPlay.cells)),(15,.sl (.id (g5+1)) 1 (v24.map cI)),(16,.i v25)]) _ _
          replace hS:St (·<g) H0 [(g5+1,.row 3 v24.length)] H g9:=hS
          replace hM:zeT n r9 r14 (zcG n r9 r14 m9) v24 v25=some r:=hM
          refine Sq ?_
          refine Sq ?_
          refine Rg 4 ?_
          refine Om (.i v25) ?_
          refine Om (.sl .no 2 (r14.1.map TrayPlay.cells)) ?_
          refine zcg (n:=r14.1.length) (by decide) rfl (List.length_map _) zmZ ?_
          refine Oi (.b (decide (v25<(r14.1.length:Int)))) ?_
          refine Ni ?_
          refine Ws ?_
          rcases bft (decide (v25<(r14.1.length:Int))) with hb26 | hb26
          ·replace hM:=ifT hM hb26
           refine Ct hb26 ?_
           refine zaC ?_
           refine Ws ?_
           refine Sq ?_
           refine zaz ?_
           refine Sq ?_
           refine zaO (J:=Bool) (fun j=>[(9,.sl .no 1 (r9.1.map cI)),(13,.sl .no 2 (r14.1.map TrayPlay.cells)),(15,.sl (.id (g5+1)) 1 (v24.map cI)),(16,.i v25),(129,.b j)]) (fun j H' g'=>St (·<g) H0 [(g5+1,.row 3 v24.length)] H' g'/\zeJ (zcG n r9 r14 m9) r14 v24 v25 j=some r) ?_ ?_
           ·rintro v27 H g10 ⟨hS,hM⟩
            change wpA _ _ _ _ (Fr.of [(9,.sl .no 1 (r9.1.map cI)),(13,.sl .no 2 (r14.1.map TrayPlay.cells)),(15,.sl (.id (g5+1)) 1 (v24.map cI)),(16,.i v25),(129,.b v27)]) _ _
            replace hS:St (·<g) H0 [(g5+1,.row 3 v24.length)] H g10:=hS
            replace hM:zeJ (zcG n r9 r14 m9) r14 v24 v25 v27=some r:=hM
            rcases bft v27 with hb28 | hb28
            ·replace hM:=ifT hM hb28
             refine Ct hb28 ?_
             refine Sq ?_
             refine Rg 1 ?_
             refine Oa (.b false) ?_
             refine Ni ?_
             replace hS:=hS.keep (L':=[]) [false] rfl
             refine Ws ?_
             refine zaQ ?_
             refine zaq ?_
             refine zaI ?_
             refine zaq ?_
             refine zbs ?_
             refine zaI ?_
             refine zbr ?_
             refine za7 (x:=.b false) (f:=fun r=>.b r) (.inr rfl) ?_ (.refl _) (Option.some.inj hM) hS
             exact (zaw (zai (x:=.b false) rfl))
            ·replace hM:=ifF hM hb28
             refine Cf hb28 ?_
             refine zaC ?_
             refine Ws ?_
             refine Rg 9 ?_
             refine Om (.sl (.id (g5+1)) 1 (v24.map cI)) ?_
             refine Om (.sl .no 2 (r14.1.map TrayPlay.cells)) ?_
             refine Om (.i v25) ?_
             obtain ⟨x29,hx29,hM⟩:=zas hM
             refine zbu (xs:=r14.1) (f:=TrayPlay.cells) (z:=v25) (u:=x29) (by decide) rfl rfl zjF hx29 ?_
             refine Of ([.i x29.Side,.i x29.Time]) zjH ?_
             refine Olp (.i x29.Side) zaf zap ?_
             refine zbj (es:=[[.i x29.Side]]) hS (by decide) zbL zeB rfl zeC rfl (by decide) (by omega) fun H hS=>?_
             obtain ⟨l30,hl30,hM⟩:=zas hM
             refine zdJ (xs:=v24) (ys:=([x29.Side]:List Int)) (zs:=l30) (f:=cI) (L':=[(g10+6,.row 3 1),(g5+1,.row 3 l30.length)]) 1 hS (by decide) rfl rfl rfl rfl .no zbL zeB zeC hl30 rfl fun H hS=>?_
             refine Oa (.sl (.id (g5+1)) 1 (l30.map cI)) ?_
             refine Ni ?_
             refine zah ?_
             replace hS:=hS.keep (L':=[(g5+1,.row 3 l30.length)]) [false,true] rfl
             refine Ws ?_
             refine Rg 3 ?_
             refine Om (.i v25) ?_
             refine Oi (.i (w64 (v25+1))) ?_
             refine Oa (.i (w64 (v25+1))) ?_
             refine Ni ?_
             exact zbF (l30,w64 (v25+1)) (Nat.lt_succ_self _) (.k (.k (.k (.k .nil)))) ⟨(hS.keep [true] rfl).up (by omega),hM⟩
           ·refine Rg 17 ?_
            refine Om (.sl (.id (g5+1)) 1 (v24.map cI)) ?_
            refine Om (.sl .no 2 (r14.1.map TrayPlay.cells)) ?_
            refine Om (.i v25) ?_
            obtain ⟨x31,hx31,hM⟩:=zas hM
            refine zbu (xs:=r14.1) (f:=TrayPlay.cells) (z:=v25) (u:=x31) (by decide) rfl rfl zjF hx31 ?_
            refine Of ([.i x31.Side,.i x31.Time]) zjH ?_
            refine Olp (.i x31.Side) zaf zap ?_
            obtain ⟨r32,hr32,hM⟩:=zas hM
            refine zaP (bs:=[.sl (.id (g5+1)) 1 (v24.map cI),.i x31.Side]) (by decide) rfl rfl ((ziO hr32).le (.cons (.sl _ _ _) (.k .nil))) ?_
            refine Om (.b r32) ?_
            rcases bft r32 with hb33 | hb33
            ·replace hM:=ifT hM hb33
             refine On (want:=false) hb33 ?_
             refine On (want:=false) hb33 ?_
             refine On (want:=false) hb33 ?_
             refine On (want:=false) hb33 ?_
             refine On (want:=false) hb33 ?_
             refine On (want:=false) hb33 ?_
             refine On (want:=false) hb33 ?_
             refine On (want:=false) hb33 ?_
             refine Pt (.b true) hb33 ?_
             refine Ni ?_
             exact zak true (.k (.k (.k (.k (.k .nil))))) ⟨(hS.keep [true] rfl).up (by omega),hM⟩
            ·replace hM:=ifF hM hb33
             refine Oy (want:=false) hb33 ?_
             refine Om (.sl .no 1 (r9.1.map cI)) ?_
             refine Oy (want:=false) hb33 ?_
             refine Om (.sl .no 2 (r14.1.map TrayPlay.cells)) ?_
             refine Oy (want:=false) hb33 ?_
             refine Om (.i v25) ?_
             refine Oy (want:=false) hb33 ?_
             obtain ⟨x34,hx34,hM⟩:=zas hM
             refine zbu (xs:=r14.1) (f:=TrayPlay.cells) (z:=v25) (u:=x34) (by decide) rfl rfl zjF hx34 ?_
             refine Oy (want:=false) hb33 ?_
             refine Of ([.i x34.Side,.i x34.Time]) zjH ?_
             refine Oy (want:=false) hb33 ?_
             refine Olp (.i x34.Side) zaf zap ?_
             refine Oy (want:=false) hb33 ?_
             obtain ⟨r35,hr35,hM⟩:=zas hM
             refine zaP (bs:=[.sl .no 1 (r9.1.map cI),.i x34.Side]) (by decide) rfl rfl ((ziO hr35).le (.k (.k .nil))) ?_
             refine Oy (want:=false) hb33 ?_
             refine zdW (e:=r35) (by decide) rfl ?_
             refine Pf (.b (!r35)) hb33 ?_
             refine Ni ?_
             exact zak (!r35) (.k (.k (.k (.k (.k .nil))))) ⟨(hS.keep [true] rfl).up (by omega),hM⟩
          ·replace hM:=ifF hM hb26
           refine Cf hb26 ?_
           refine zcp ?_
           refine zay ?_
           refine zau ?_
           refine zaD ?_
           exact zak v24 (.k (.k .nil)) ⟨(hS.keep [true] rfl).up (by omega),hM⟩
       ·refine Rg 9 ?_
        refine Om (.i r14.2) ?_
        refine Oi (.b (r14.2 != 0)) ?_
        refine Om (.b (r14.2 != 0)) ?_
        rcases bft (r14.2 != 0) with hb36 | hb36
        ·replace hM:=ifT hM hb36
         refine On (want:=false) hb36 ?_
         refine On (want:=false) hb36 ?_
         refine On (want:=false) hb36 ?_
         refine On (want:=false) hb36 ?_
         refine On (want:=false) hb36 ?_
         refine Pt (.b true) hb36 ?_
         refine Ni ?_
         exact zak true (.k (.k (.k .nil))) ⟨(hS.keep [] rfl).up (by omega),hM⟩
        ·replace hM:=ifF hM hb36
         refine Oy (want:=false) hb36 ?_
         refine Om (.sl .no 2 (r14.1.map TrayPlay.cells)) ?_
         refine Oy (want:=false) hb36 ?_
         refine zcg (n:=r14.1.length) (by decide) rfl (List.length_map _) zmZ ?_
         refine Oy (want:=false) hb36 ?_
         refine Om (.sl .no 1 (r9.1.map cI)) ?_
         refine Oy (want:=false) hb36 ?_
         refine zcg (n:=r9.1.length) (by decide) rfl (List.length_map _) zbA ?_
         refine Oy (want:=false) hb36 ?_
         refine Oi (.b (decide ((r14.1.length:Int)>(r9.1.length:Int)))) ?_
         refine Pf (.b (decide ((r14.1.length:Int)>(r9.1.length:Int)))) hb36 ?_
         refine Ni ?_
         exact zak (decide ((r14.1.length:Int)>(r9.1.length:Int))) (.k (.k (.k .nil))) ⟨(hS.keep [] rfl).up (by omega),hM⟩
      ·refine Sq ?_
       refine Rg 1 ?_
       refine Oa (.i 0) ?_
       refine Ni ?_
       refine Ws ?_
       refine zaz ?_
       refine zcx (V:=Int×(List TrayPress)) (fun v=>[(9,.sl .no 1 (r9.1.map cI)),(11,.ptr (g3+2) 0),(12,.i v.1)]) (fun v m12 H' g'=>St (·<g) H0 [(g3+4+2,.row 55 v.2.length),(g3+2,.cells [.sl .no 2 (r12.Records.map TrayRecord.cells),.i r12.At,.i r12.Way,.i r12.Step,.sl (.id (g3+4+2)) 2 (v.2.map TrayPress.cells)])] H' g'/\zdo n r9 r12 m12 v.1 v.2=some r) (n:=n) (0,([]:List TrayPress)) (.k (.k (.k .nil))) ⟨(hS.keep [true,true] rfl).up (by omega),hM⟩ ?_
       rintro ⟨v38,v39⟩ m12 H g12 ⟨hS,hM⟩
       obtain _ | m12:=m12
       ·exact nomatch (show none=some _ from hM)
       change wpA _ _ _ _ (Fr.of [(9,.sl .no 1 (r9.1.map cI)),(11,.ptr (g3+2) 0),(12,.i v38)]) _ _
       replace hS:St (·<g) H0 [(g3+4+2,.row 55 v39.length),(g3+2,.cells [.sl .no 2 (r12.Records.map TrayRecord.cells),.i r12.At,.i r12.Way,.i r12.Step,.sl (.id (g3+4+2)) 2 (v39.map TrayPress.cells)])] H g12:=hS
       replace hM:zeU n r9 r12 (zdo n r9 r12 m12) v38 v39=some r:=hM
       refine Sq ?_
       refine Sq ?_
       refine Rg 4 ?_
       refine Om (.i v38) ?_
       refine Om (.sl .no 1 (r9.1.map cI)) ?_
       refine zcg (n:=r9.1.length) (by decide) rfl (List.length_map _) zbA ?_
       refine Oi (.b (decide (v38<(r9.1.length:Int)))) ?_
       refine Ni ?_
       refine Ws ?_
       rcases bft (decide (v38<(r9.1.length:Int))) with hb40 | hb40
       ·replace hM:=ifT hM hb40
        refine Ct hb40 ?_
        refine zaC ?_
        refine Ws ?_
        refine Sq ?_
        refine zaz ?_
        have hS0:=hS
        refine zd1 (n:=11) rfl (by kernel_rfl) ?_
        refine zag (by decide) zdk rfl ?_
        refine zaG (v:=.sl (.id (g3+4+2)) 2 (v39.map TrayPress.cells)) 1 hS (by decide) rfl rfl (.st hS0 1 rfl (by omega)) (po zcW zdN) ?_
        refine Om (.sl .no 1 (r9.1.map cI)) ?_
        refine Om (.i v38) ?_
        obtain ⟨x41,hx41,hM⟩:=zas hM
        refine zbu (xs:=r9.1) (f:=cI) (z:=v38) (u:=x41) (by decide) rfl rfl zbL hx41 ?_
        refine Olp (.i x41) zaf zap ?_
        refine zdb (cs:=[.i x41,.i 0]) (by decide) zlA zrE rfl ?_
        refine zbj (es:=[[.i x41,.i 0]]) hS (by decide) zdO ziF rfl ziG rfl (by decide) (by omega) fun H hS=>?_
        obtain ⟨l42,hl42,hM⟩:=zas hM
        refine zdJ (xs:=v39) (ys:=([(⟨x41,0⟩:TrayPress)]:List TrayPress)) (zs:=l42) (f:=TrayPress.cells) (L':=[(g12+4+7,.row 55 1),(g3+4+2,.row 55 l42.length),(g3+2,.cells [.sl .no 2 (r12.Records.map TrayRecord.cells),.i r12.At,.i r12.Way,.i r12.Step,.sl (.id (g3+4+2)) 2 (v39.map TrayPress.cells)])]) 1 hS (by decide) rfl rfl rfl rfl (.st hS0 0 rfl (by omega)) zdO ziF ziG hl42 rfl fun H hS=>?_
        refine zag (by decide) zdk rfl ?_
        refine zaM (v:=.sl (.id (g3+4+2)) 2 (l42.map TrayPress.cells)) (ns:=[.sl (.id (g3+4+2)) 2 (l42.map TrayPress.cells)]) (L':=[(g12+4+7,.row 55 1),(g3+4+2,.row 55 l42.length),(g3+2,.cells [.sl .no 2 (r12.Records.map TrayRecord.cells),.i r12.At,.i r12.Way,.i r12.Step,.sl (.id (g3+4+2)) 2 (l42.map TrayPress.cells)])]) 2 hS rfl rfl (.st hS0 1 rfl (by omega)) rfl rfl zi8 nlb rfl fun H hS=>?_
        refine Ni ?_
        refine zah ?_
        replace hS:=hS.keep (L':=[(g3+4+2,.row 55 l42.length),(g3+2,.cells [.sl .no 2 (r12.Records.map TrayRecord.cells),.i r12.At,.i r12.Way,.i r12.Step,.sl (.id (g3+4+2)) 2 (l42.map TrayPress.cells)])]) [false,true,true] rfl
        refine Ws ?_
        refine Rg 3 ?_
        refine Om (.i v38) ?_
        refine Oi (.i (w64 (v38+1))) ?_
        refine Oa (.i (w64 (v38+1))) ?_
        refine Ni ?_
        exact zbF (w64 (v38+1),l42) (Nat.lt_succ_self _) (.k (.k (.k .nil))) ⟨(hS.keep [true,true] rfl).up (by omega),hM⟩
       ·replace hM:=ifF hM hb40
        refine Cf hb40 ?_
        refine zcp ?_
        refine zay ?_
        refine zau ?_
        refine zaD ?_
        exact zak v39 (.k (.k .nil)) ⟨(hS.keep [true,true] rfl).up (by omega),hM⟩
    ·refine Rg 8 ?_
     refine Om (.i r9.2) ?_
     refine Oi (.b (r9.2 != 0)) ?_
     refine Om (.b (r9.2 != 0)) ?_
     rcases bft (r9.2 != 0) with hb43 | hb43
     ·replace hM:=ifT hM hb43
      refine On (want:=false) hb43 ?_
      refine On (want:=false) hb43 ?_
      refine On (want:=false) hb43 ?_
      refine On (want:=false) hb43 ?_
      refine Pt (.b true) hb43 ?_
      refine Ni ?_
      exact zak true (.k (.k (.k .nil))) ⟨(hS.keep [] rfl).up (by omega),hM⟩
     ·replace hM:=ifF hM hb43
      refine Oy (want:=false) hb43 ?_
      refine Om (.sl .no 1 (r9.1.map cI)) ?_
      refine Oy (want:=false) hb43 ?_
      refine Om (.sl .no 1 (a1.map cI)) ?_
      refine Oy (want:=false) hb43 ?_
      obtain ⟨r44,hr44,hM⟩:=zas hM
      refine zaP (bs:=[.sl .no 1 (r9.1.map cI),.sl .no 1 (a1.map cI)]) (by decide) rfl rfl ((zgR hr44).le (.k (.k .nil))) ?_
      refine Oy (want:=false) hb43 ?_
      refine zdW (e:=r44) (by decide) rfl ?_
      refine Pf (.b (!r44)) hb43 ?_
      refine Ni ?_
      exact zak (!r44) (.k (.k (.k .nil))) ⟨(hS.keep [] rfl).up (by omega),hM⟩
 ·refine Rg 24 ?_
  refine zag (by decide) zdR rfl ?_
  refine zaG (v:=.sl .no 1 (a0.Times.map cI)) 0 hS (by decide) rfl rfl .no (po zb6 zcX) ?_
  refine zcg (n:=a0.Times.length) (by decide) rfl (List.length_map _) zbA ?_
  refine Oi (.b (decide ((a0.Times.length:Int)>40))) ?_
  refine Om (.b (decide ((a0.Times.length:Int)>40))) ?_
  rcases bft (decide ((a0.Times.length:Int)>40)) with hb45 | hb45
  ·replace hM:=ifT hM hb45
   refine On (want:=false) hb45 ?_
   refine On (want:=false) hb45 ?_
   refine On (want:=false) hb45 ?_
   refine Pt (.b true) hb45 ?_
   refine Om (.b true) ?_
   refine Og ?_
   refine Og ?_
   refine za8 (v:=.b true) (e:=true) (by decide) rfl rfl rfl ?_
   refine Om (.b true) ?_
   refine Og ?_
   refine Og ?_
   refine Og ?_
   refine za8 (v:=.b true) (e:=true) (by decide) rfl rfl rfl ?_
   refine Om (.b true) ?_
   refine Og ?_
   refine Og ?_
   refine Og ?_
   refine Og ?_
   refine za8 (v:=.b true) (e:=true) (by decide) rfl rfl rfl ?_
   refine Ni ?_
   exact zak true (.k (.k (.k (.k .nil)))) ⟨(hS.keep [true] rfl).up (by omega),hM⟩
  ·replace hM:=ifF hM hb45
   refine Oy (want:=false) hb45 ?_
   refine Om (.sl .no 1 (a1.map cI)) ?_
   refine Oy (want:=false) hb45 ?_
   refine zcg (n:=a1.length) (by decide) rfl (List.length_map _) zbA ?_
   refine Oy (want:=false) hb45 ?_
   refine Oi (.b (decide ((a1.length:Int)>12))) ?_
   refine Pf (.b (decide ((a1.length:Int)>12))) hb45 ?_
   refine Om (.b (decide ((a1.length:Int)>12))) ?_
   rcases bft (decide ((a1.length:Int)>12)) with hb46 | hb46
   ·replace hM:=ifT hM hb46
    refine On (want:=false) hb46 ?_
    refine On (want:=false) hb46 ?_
    refine Pt (.b true) hb46 ?_
    refine Om (.b true) ?_
    refine Og ?_
    refine Og ?_
    refine Og ?_
    refine za8 (v:=.b true) (e:=true) (by decide) rfl rfl rfl ?_
    refine Om (.b true) ?_
    refine Og ?_
    refine Og ?_
    refine Og ?_
    refine Og ?_
    refine za8 (v:=.b true) (e:=true) (by decide) rfl rfl rfl ?_
    refine Ni ?_
    exact zak true (.k (.k (.k (.k .nil)))) ⟨(hS.keep [true] rfl).up (by omega),hM⟩
   ·replace hM:=ifF hM hb46
    refine Oy (want:=false) hb46 ?_
    refine Olg (.agg (Tray.cells a2)) zdV ?_
    refine Oy (want:=false) hb46 ?_
    obtain ⟨r47,hr47,hM⟩:=zas hM
    refine zaP (bs:=[.agg (Tray.cells a2)]) (by decide) rfl rfl ((zmu hr47).le (.k .nil)) ?_
    refine Pf (.b r47) hb46 ?_
    refine Om (.b r47) ?_
    rcases bft r47 with hb48 | hb48
    ·replace hM:=ifT hM hb48
     refine On (want:=false) hb48 ?_
     refine On (want:=false) hb48 ?_
     refine On (want:=false) hb48 ?_
     refine Pt (.b true) hb48 ?_
     refine Om (.b true) ?_
     refine Og ?_
     refine Og ?_
     refine Og ?_
     refine Og ?_
     refine za8 (v:=.b true) (e:=true) (by decide) rfl rfl rfl ?_
     refine Ni ?_
     exact zak true (.k (.k (.k (.k .nil)))) ⟨(hS.keep [true] rfl).up (by omega),hM⟩
    ·replace hM:=ifF hM hb48
     refine Oy (want:=false) hb48 ?_
     refine Olg (.agg (Tray.cells a2)) zdV ?_
     refine Oy (want:=false) hb48 ?_
     obtain ⟨r49,hr49,hM⟩:=zas hM
     refine zaP (bs:=[.agg (Tray.cells a2)]) (by decide) rfl rfl ((zk0 hr49).le (.k .nil)) ?_
     refine Oy (want:=false) hb48 ?_
     refine Oi (.b (r49 != 0)) ?_
     refine Pf (.b (r49 != 0)) hb48 ?_
     refine Om (.b (r49 != 0)) ?_
     rcases bft (r49 != 0) with hb50 | hb50
     ·replace hM:=ifT hM hb50
      refine On (want:=false) hb50 ?_
      refine On (want:=false) hb50 ?_
      refine On (want:=false) hb50 ?_
      refine On (want:=false) hb50 ?_
      refine Pt (.b true) hb50 ?_
      refine Ni ?_
      exact zak true (.k (.k (.k (.k .nil)))) ⟨(hS.keep [true] rfl).up (by omega),hM⟩
     ·replace hM:=ifF hM hb50
      refine Oy (want:=false) hb50 ?_
      refine Of ((Tray.cells a2)) zbY ?_
      refine Oy (want:=false) hb50 ?_
      refine Olp (.sl .no 2 (a2.Records.map TrayRecord.cells)) zcP zdB ?_
      refine Oy (want:=false) hb50 ?_
      refine zcg (n:=a2.Records.length) (by decide) rfl (List.length_map _) zdM ?_
      refine Oy (want:=false) hb50 ?_
      refine Oi (.b (decide ((a2.Records.length:Int)>5))) ?_
      refine Pf (.b (decide ((a2.Records.length:Int)>5))) hb50 ?_
      refine Ni ?_
      exact zak (decide ((a2.Records.length:Int)>5)) (.k (.k (.k (.k .nil)))) ⟨(hS.keep [true] rfl).up (by omega),hM⟩
end Go.Proofs.Ytclaalcoefcljaa
