/-
  The code returns what the functions say (printed by gen.py).
  Conditions: none.
-/
import Derived.Test.YtebfppngmmdfkaaGreatWkTopDialed1
import Derived.Test.YtebfppngmmdfkaaGreatAmPg
import Derived.Test.YtebfppngmmdfkaaGreatSh
set_option linter.all false
namespace Go.Proofs.YtebfppngmmdfkaaGreat
open Go Go.AM Go.Law
set_option linter.unusedVariables false
set_option maxRecDepth 4000
set_option maxHeartbeats 4000000
theorem zi8 {n:Nat} {a0:Train_} {a1:List Int} {r:(List Int)×Bool} (hM:zeC n a0 a1=some r):zav Tryz.prog 76 [.agg (Train_.cells a0),.sl .no 1 (a1.map cI)] (.tup [.sl .fr 1 (r.1.map cI),.b r.2]):=by
 refine zoG mixed Tryz.func76 rfl (by decide) Tryz.ntmps76 (by simp) ?pure (e:=3) (zs:=r.1) (y:=(.bool r.2)) fun H0 g hf=>?_
 case pure=>exact (zaa (.agg _ (zaa (.v _) (zaa (.v _) (zaa (.v _) (zaa (.v _) (zaa (.v _) (zaa (.v _) (zaa (.v _) (zaa (.sl _ _ (zau (fun x=>(zaa (.v _) zaC)))) zaC))))))))) (zaa (.sl _ _ (zau (fun x=>(zaa (.v _) zaC)))) zaC))
 rw [zag]
 change wpA _ _ _ _ (Fr.of [(0,.agg (Train_.cells a0)),(1,.sl .no 1 (a1.map cI))]) H0 g
 have hS:=St.start hf
 refine Sq ?_
 refine Rg 3 ?_
 refine zbP (v:=.agg (Train_.cells a0)) (cs:=(Train_.cells a0)) hS (by decide) rfl rfl (by omega) fun H hS=>?_
 refine zcj hS (by decide) zny (by omega) fun H hS=>?_
 refine Oa (.b false) ?_
 refine Ni ?_
 refine zk5 (cs':=[.sl (.id (g+3)) 1 (([]:List Int).map cI)]) (L':=[(g+1,.cells [.sl (.id (g+3)) 1 (([]:List Int).map cI)]),(g+0,.cells (Train_.cells a0))]) 0 0 1 3 hS (by omega) (by decide) rfl rfl rfl rfl fun H hS=>?_
 refine Ws ?_
 refine Sq ?_
 refine Rg 1 ?_
 refine zcj hS (by decide) zj0 (by omega) fun H hS=>?_
 refine Ni ?_
 refine Ws ?_
 refine Sq ?_
 refine Rg 2 ?_
 refine zce (first:=[]) (cap:=[.ptr (g+1) 0,.ptr (g+3+1+0) 0,.ptr (g+0) 0]) (by decide) rfl rfl ?_
 refine Oa (.fn (.func 98) [] [.ptr (g+1) 0,.ptr (g+3+1+0) 0,.ptr (g+0) 0]) ?_
 refine Ni ?_
 refine Ws ?_
 refine zaF (J:=Int×Int×(List Int)) (fun j=>[(1,.sl .no 1 (a1.map cI)),(4,.ptr (g+1) 0),(7,.fn (.func 98) [] [.ptr (g+1) 0,.ptr (g+3+1+0) 0,.ptr (g+0) 0])]) (fun j H' g'=>St (·<g) H0 [(g+3+1+0,.cells [.i j.1,.i j.2.1]),(g+3,.row 3 j.2.2.length),(g+1,.cells [.sl (.id (g+3)) 1 (j.2.2.map cI)]),(g+0,.cells (Train_.cells a0))] H' g'/\zcM a0 a1 j.1 j.2.1 j.2.2=some r) ?_ ?_
 ·rintro ⟨v1,v2,v3⟩ H g1 ⟨hS,hM⟩
  change wpA _ _ _ _ (Fr.of [(1,.sl .no 1 (a1.map cI)),(4,.ptr (g+1) 0),(7,.fn (.func 98) [] [.ptr (g+1) 0,.ptr (g+3+1+0) 0,.ptr (g+0) 0])]) _ _
  replace hS:St (·<g) H0 [(g+3+1+0,.cells [.i v1,.i v2]),(g+3,.row 3 v3.length),(g+1,.cells [.sl (.id (g+3)) 1 (v3.map cI)]),(g+0,.cells (Train_.cells a0))] H g1:=hS
  replace hM:zcM a0 a1 v1 v2 v3=some r:=hM
  refine Sq ?_
  refine zaF (J:=Bool×(List Int)) (fun j=>[(4,.ptr (g+1) 0),(63,.b j.1)]) (fun j H' g'=>St (·<g) H0 [(g+3,.row 3 j.2.length),(g+1,.cells [.sl (.id (g+3)) 1 (j.2.map cI)])] H' g'/\zcf j.1 j.2=some r) ?_ ?_
  ·rintro ⟨v4,v5⟩ H g2 ⟨hS,hM⟩
   change wpA _ _ _ _ (Fr.of [(4,.ptr (g+1) 0),(63,.b v4)]) _ _
   replace hS:St (·<g) H0 [(g+3,.row 3 v5.length),(g+1,.cells [.sl (.id (g+3)) 1 (v5.map cI)])] H g2:=hS
   replace hM:zcf v4 v5=some r:=hM
   rcases bft v4 with hb6 | hb6
   ·replace hM:=ifT hM hb6
    refine Ct hb6 ?_
    refine Sq ?_
    refine Rg 2 ?_
    refine zaK (v:=.sl .nil 0 []) (ns:=[.sl .nil 0 []]) (L':=[(g+3,.row 3 v5.length),(g+1,.cells [.sl .nil 0 []])]) 1 hS rfl rfl .no rfl rfl zfX nlb rfl fun H hS=>?_
    refine Oa (.b false) ?_
    refine Ni ?_
    refine zk5 (cs':=[.sl (.id (g2+2)) 1 (([]:List Int).map cI)]) (L':=[(g+3,.row 3 v5.length),(g+1,.cells [.sl (.id (g2+2)) 1 (([]:List Int).map cI)])]) 1 0 1 3 hS (by omega) (by decide) rfl rfl rfl rfl fun H hS=>?_
    replace hS:=hS.keep (L':=[(g2+2,.row 3 0),(g+1,.cells [.sl (.id (g2+2)) 1 (([]:List Int).map cI)])]) [true,false,true] rfl
    refine Ws ?_
    refine zaB ?_
    refine zak ?_
    obtain rfl:=Option.some.inj hM
    exact znw 0 (.inr rfl) (zbn (zcC (x:=.sl (.id (g2+2)) 1 (([]:List Int).map cI)) 1 hS rfl rfl (po zbr zcc)) (zad (x:=.b false) rfl)) hS rfl
   ·replace hM:=ifF hM hb6
    refine Cf hb6 ?_
    refine zas ?_
    refine Ws ?_
    refine Sq ?_
    refine Rg 3 ?_
    refine zaW (v:=.sl (.id (g+3)) 1 (v5.map cI)) 1 hS (by decide) rfl rfl .no (po zbr zcc) ?_
    refine zaK (v:=.sl (.id (g+3)) 1 (v5.map cI)) (ns:=[.sl (.id (g+3)) 1 (v5.map cI)]) (L':=[(g+3,.row 3 v5.length),(g+1,.cells [.sl (.id (g+3)) 1 (v5.map cI)])]) 1 hS rfl rfl .no rfl rfl zfX nlb rfl fun H hS=>?_
    refine Oa (.b true) ?_
    refine Ni ?_
    refine Ws ?_
    refine zaB ?_
    obtain rfl:=Option.some.inj hM
    exact znw 0 (.inr rfl) (zbn (zcC (x:=.sl (.id (g+3)) 1 (v5.map cI)) 1 hS rfl rfl (po zbr zcc)) (zad (x:=.b true) rfl)) hS rfl
  ·refine Rg 8 ?_
   refine Om (.sl .no 1 (a1.map cI)) ?_
   refine zco (n:=a1.length) (by decide) rfl (List.length_map _) zbc ?_
   refine Oi (.b (decide ((a1.length:Int)>0))) ?_
   refine Om (.b (decide ((a1.length:Int)>0))) ?_
   rcases bft (decide ((a1.length:Int)>0)) with hb7 | hb7
   ·replace hM:=ifT hM hb7
    refine Oy (want:=true) hb7 ?_
    refine Om (.fn (.func 98) [] [.ptr (g+1) 0,.ptr (g+3+1+0) 0,.ptr (g+0) 0]) ?_
    refine Oy (want:=true) hb7 ?_
    obtain ⟨r8,hr8,hM⟩:=zal hM
    have hndr8:=hS.nd_at (ns:=[2,1,0,3]) (M:=[(g+1,.cells [.sl (.id (g+3)) 1 (v3.map cI)]),(g+3,.row 3 v3.length),(g+3+1+0,.cells [.i v1,.i v2]),(g+0,.cells (Train_.cells a0))]) (M':=[(g+1,.cells [.sl (.id (g+3)) 1 (r8.2.map cI)]),(g+3,.row 3 r8.2.length),(g+3+1+0,.cells [.i v1,.i v2]),(g+0,.cells (Train_.cells a0))]) (.cons rfl (.cons rfl (.cons rfl (.cons rfl .nil)))) (by decide)
    refine zkf (bs:=[.ptr (g+1) 0,.ptr (g+3+1+0) 0,.ptr (g+0) 0]) (M:=[(g+1,.cells [.sl (.id (g+3)) 1 (v3.map cI)]),(g+3,.row 3 v3.length),(g+3+1+0,.cells [.i v1,.i v2]),(g+0,.cells (Train_.cells a0))]) (M':=[(g+1,.cells [.sl (.id (g+3)) 1 (r8.2.map cI)]),(g+3,.row 3 r8.2.length),(g+3+1+0,.cells [.i v1,.i v2]),(g+0,.cells (Train_.cells a0))]) (L':=[(g+3+1+0,.cells [.i v1,.i v2]),(g+3,.row 3 r8.2.length),(g+1,.cells [.sl (.id (g+3)) 1 (r8.2.map cI)]),(g+0,.cells (Train_.cells a0))]) [2,1,0,3] (.inl rfl) hS (by decide) rfl rfl ((zfA (p1:=g+1) (w1:=g+3) (p2:=g+3+1+0) (p3:=g+0) hndr8 hr8).le (.k (.k (.k .nil)))) (.cons rfl (.cons rfl (.cons rfl (.cons rfl .nil)))) rfl (by omega) fun H hS=>?_
    refine Oy (want:=true) hb7 ?_
    refine zdc (e:=r8.1) (by decide) rfl ?_
    refine Pt (.b (!r8.1)) hb7 ?_
    refine Ni ?_
    exact zai ((!r8.1),r8.2) (.k (.k .nil)) ⟨(hS.keep [false,true,true,false] rfl).up (by omega),hM⟩
   ·replace hM:=ifF hM hb7
    refine On (want:=true) hb7 ?_
    refine On (want:=true) hb7 ?_
    refine On (want:=true) hb7 ?_
    refine Pf (.b false) hb7 ?_
    refine Ni ?_
    exact zai (false,v3) (.k (.k .nil)) ⟨(hS.keep [false,true,true,false] rfl).up (by omega),hM⟩
 ·refine Sq ?_
  refine Rg 3 ?_
  refine Om (.sl .no 1 (a1.map cI)) ?_
  refine zco (n:=a1.length) (by decide) rfl (List.length_map _) zbc ?_
  refine Om (.i 0) ?_
  refine Ni ?_
  refine Ws ?_
  refine zap ?_
  refine zbI (V:=Int×Int×Int×(List Int)) (fun v=>[(1,.sl .no 1 (a1.map cI)),(2,.ptr (g+0) 0),(4,.ptr (g+1) 0),(6,.ptr (g+3+1+0) 0),(7,.fn (.func 98) [] [.ptr (g+1) 0,.ptr (g+3+1+0) 0,.ptr (g+0) 0]),(11,.sl .no 1 (a1.map cI)),(12,.i (a1.length:Int)),(13,.i v.1)]) (fun v m4 H' g'=>St (·<g) H0 [(g+3+1+0,.cells [.i v.2.1,.i v.2.2.1]),(g+3,.row 3 v.2.2.2.length),(g+1,.cells [.sl (.id (g+3)) 1 (v.2.2.2.map cI)]),(g+0,.cells (Train_.cells a0))] H' g'/\zaQ a0 a1 m4 v.1 v.2.1 v.2.2.1 v.2.2.2=some r) (n:=n) (0,0,0,([]:List Int)) (.k (.k (.k (.k (.k (.k (.k (.k .nil)))))))) ⟨(hS.keep [true,true,true,true] rfl).up (by omega),hM⟩ ?_
  rintro ⟨v10,v11,v12,v13⟩ m4 H g4 ⟨hS,hM⟩
  obtain _ | m4:=m4
  ·exact nomatch (show none=some _ from hM)
  change wpA _ _ _ _ (Fr.of [(1,.sl .no 1 (a1.map cI)),(2,.ptr (g+0) 0),(4,.ptr (g+1) 0),(6,.ptr (g+3+1+0) 0),(7,.fn (.func 98) [] [.ptr (g+1) 0,.ptr (g+3+1+0) 0,.ptr (g+0) 0]),(11,.sl .no 1 (a1.map cI)),(12,.i (a1.length:Int)),(13,.i v10)]) _ _
  replace hS:St (·<g) H0 [(g+3+1+0,.cells [.i v11,.i v12]),(g+3,.row 3 v13.length),(g+1,.cells [.sl (.id (g+3)) 1 (v13.map cI)]),(g+0,.cells (Train_.cells a0))] H g4:=hS
  replace hM:zbN a0 a1 (zaQ a0 a1 m4) v10 v11 v12 v13=some r:=hM
  refine Sq ?_
  refine Rg 1 ?_
  refine Oi (.b (decide (v10<(a1.length:Int)))) ?_
  refine Ni ?_
  refine Ws ?_
  refine Sq ?_
  rcases bft (decide (v10<(a1.length:Int))) with hb14 | hb14
  ·replace hM:=ifT hM hb14
   refine Ct hb14 ?_
   refine zas ?_
   refine Ws ?_
   refine zaF (J:=Int×Int×(List Int)) (fun j=>[(1,.sl .no 1 (a1.map cI)),(2,.ptr (g+0) 0),(4,.ptr (g+1) 0),(6,.ptr (g+3+1+0) 0),(7,.fn (.func 98) [] [.ptr (g+1) 0,.ptr (g+3+1+0) 0,.ptr (g+0) 0]),(11,.sl .no 1 (a1.map cI)),(12,.i (a1.length:Int)),(13,.i v10)]) (fun j H' g'=>St (·<g) H0 [(g+3+1+0,.cells [.i j.1,.i j.2.1]),(g+3,.row 3 j.2.2.length),(g+1,.cells [.sl (.id (g+3)) 1 (j.2.2.map cI)]),(g+0,.cells (Train_.cells a0))] H' g'/\zaZ (zaQ a0 a1 m4) v10 j.1 j.2.1 j.2.2=some r) ?_ ?_
   ·rintro ⟨v15,v16,v17⟩ H g5 ⟨hS,hM⟩
    change wpA _ _ _ _ (Fr.of [(1,.sl .no 1 (a1.map cI)),(2,.ptr (g+0) 0),(4,.ptr (g+1) 0),(6,.ptr (g+3+1+0) 0),(7,.fn (.func 98) [] [.ptr (g+1) 0,.ptr (g+3+1+0) 0,.ptr (g+0) 0]),(11,.sl .no 1 (a1.map cI)),(12,.i (a1.length:Int)),(13,.i v10)]) _ _
    replace hS:St (·<g) H0 [(g+3+1+0,.cells [.i v15,.i v16]),(g+3,.row 3 v17.length),(g+1,.cells [.sl (.id (g+3)) 1 (v17.map cI)]),(g+0,.cells (Train_.cells a0))] H g5:=hS
    replace hM:zaZ (zaQ a0 a1 m4) v10 v15 v16 v17=some r:=hM
    refine Rg 2 ?_
    refine Oi (.i (w64 (v10+1))) ?_
    refine Om (.i (w64 (v10+1))) ?_
    refine Ni ?_
    exact za4 (w64 (v10+1),v15,v16,v17) (Nat.lt_succ_self _) (.k (.k (.k (.k (.k (.k (.k (.k .nil)))))))) ⟨(hS.keep [true,true,true,true] rfl).up (by omega),hM⟩
   ·refine zap ?_
    refine Sq ?_
    refine Rg 5 ?_
    refine Om (.i v10) ?_
    obtain ⟨x18,hx18,hM⟩:=zal hM
    refine zbj (xs:=a1) (f:=cI) (z:=v10) (u:=x18) (by decide) rfl rfl zbi hx18 ?_
    refine Olp (.i x18) zac zah ?_
    refine Oa (.i v10) ?_
    refine Oa (.i x18) ?_
    refine Ni ?_
    refine Ws ?_
    refine Sq ?_
    refine Sq ?_
    refine Rg 2 ?_
    refine Om (.i v10) ?_
    refine Oi (.b (v10==0)) ?_
    refine Ni ?_
    refine Ws ?_
    rcases bft (v10==0) with hb19 | hb19
    ·replace hM:=ifT hM hb19
     refine Ct hb19 ?_
     refine Sq ?_
     refine Rg 2 ?_
     refine zcm (cs:=[.i 1,.i 0]) (by decide) zj0 zpx rfl ?_
     refine zaK (v:=.agg [.i 1,.i 0]) (ns:=[.i 1,.i 0]) (L':=[(g+3+1+0,.cells [.i 1,.i 0]),(g+3,.row 3 v13.length),(g+1,.cells [.sl (.id (g+3)) 1 (v13.map cI)]),(g+0,.cells (Train_.cells a0))]) 0 hS rfl rfl .no rfl rfl znD nlb rfl fun H hS=>?_
     refine Ni ?_
     refine Ws ?_
     refine zbw ?_
     refine zar ?_
     refine zaw ?_
     exact zai (1,0,v13) (.k (.k (.k (.k (.k (.k (.k (.k .nil)))))))) ⟨(hS.keep [true,true,true,true] rfl).up (by omega),hM⟩
    ·replace hM:=ifF hM hb19
     refine Cf hb19 ?_
     refine zas ?_
     refine Ws ?_
     refine Sq ?_
     have hS0:=hS
     refine zdy (n:=9) rfl (by kernel_rfl) ?_
     refine zaW (v:=.agg (Train_.cells a0)) 3 hS (by decide) rfl rfl (.st hS0 3 rfl (by omega)) (pg zhj) ?_
     refine Om (.i x18) ?_
     refine Om (.sl .no 1 (a1.map cI)) ?_
     refine Om (.i v10) ?_
     refine Oi (.i (w64 (v10-1))) ?_
     obtain ⟨x20,hx20,hM⟩:=zal hM
     refine zbj (xs:=a1) (f:=cI) (z:=(w64 (v10-1))) (u:=x20) (by decide) rfl rfl zbi hx20 ?_
     refine Olp (.i x20) zac zah ?_
     refine Oi (.i (w64 (x18-x20))) ?_
     obtain ⟨r21,hr21,hM⟩:=zal hM
     refine zat (bs:=[.agg (Train_.cells a0),.i (w64 (x18-x20))]) (by decide) rfl rfl ((zi7 hr21).le (.k (.k .nil))) ?_
     refine Ni ?_
     refine Ws ?_
     refine zap ?_
     refine Sq ?_
     refine Rg 2 ?_
     refine Oi (.b (r21==1)) ?_
     refine Oa (.b (r21==1)) ?_
     refine Ni ?_
     refine Ws ?_
     rcases bft (r21==1) with hb22 | hb22
     ·replace hM:=ifT hM hb22
      refine Ct hb22 ?_
      refine Sq ?_
      refine Rg 3 ?_
      refine zaJ (by decide) zfM rfl ?_
      refine zaW (v:=.i v12) 0 hS (by decide) rfl rfl .no (po zac zah) ?_
      refine Oi (.b (decide (v12>0))) ?_
      refine Ni ?_
      refine Ws ?_
      rcases bft (decide (v12>0)) with hb23 | hb23
      ·replace hM:=ifT hM hb23
       refine Ct hb23 ?_
       refine Rg 5 ?_
       refine zaJ (by decide) zfM rfl ?_
       refine zaW (v:=.i v12) 0 hS (by decide) rfl rfl .no (po zac zah) ?_
       refine Oi (.i (w64 (v12+1))) ?_
       refine zaJ (by decide) zfM rfl ?_
       refine zaK (v:=.i (w64 (v12+1))) (ns:=[.i (w64 (v12+1))]) (L':=[(g+3+1+0,.cells [.i v11,.i (w64 (v12+1))]),(g+3,.row 3 v13.length),(g+1,.cells [.sl (.id (g+3)) 1 (v13.map cI)]),(g+0,.cells (Train_.cells a0))]) 0 hS rfl rfl .no rfl rfl zfs nlb rfl fun H hS=>?_
       refine Ni ?_
       refine zae ?_
       refine zae ?_
       exact zai (v11,w64 (v12+1),v13) (.k (.k (.k (.k (.k (.k (.k (.k .nil)))))))) ⟨(hS.keep [true,true,true,true] rfl).up (by omega),hM⟩
      ·replace hM:=ifF hM hb23
       refine Cf hb23 ?_
       refine Rg 5 ?_
       refine zaJ (by decide) ziK rfl ?_
       refine zaW (v:=.i v11) 0 hS (by decide) rfl rfl .no (po zac zah) ?_
       refine Oi (.i (w64 (v11+1))) ?_
       refine zaJ (by decide) ziK rfl ?_
       refine zaK (v:=.i (w64 (v11+1))) (ns:=[.i (w64 (v11+1))]) (L':=[(g+3+1+0,.cells [.i (w64 (v11+1)),.i v12]),(g+3,.row 3 v13.length),(g+1,.cells [.sl (.id (g+3)) 1 (v13.map cI)]),(g+0,.cells (Train_.cells a0))]) 0 hS rfl rfl .no rfl rfl zfs nlb rfl fun H hS=>?_
       refine Ni ?_
       refine zae ?_
       refine zae ?_
       exact zai (w64 (v11+1),v12,v13) (.k (.k (.k (.k (.k (.k (.k (.k .nil)))))))) ⟨(hS.keep [true,true,true,true] rfl).up (by omega),hM⟩
     ·replace hM:=ifF hM hb22
      refine Cf hb22 ?_
      refine Sq ?_
      refine Rg 2 ?_
      refine Oi (.b (r21==2)) ?_
      refine Oa (.b (r21==2)) ?_
      refine Ni ?_
      refine Ws ?_
      rcases bft (r21==2) with hb24 | hb24
      ·replace hM:=ifT hM hb24
       refine Ct hb24 ?_
       refine Sq ?_
       refine Sq ?_
       refine Rg 3 ?_
       refine zaJ (by decide) zfM rfl ?_
       refine zaW (v:=.i v12) 0 hS (by decide) rfl rfl .no (po zac zah) ?_
       refine Oi (.b (decide (v12>0))) ?_
       refine Ni ?_
       refine Ws ?_
       rcases bft (decide (v12>0)) with hb25 | hb25
       ·replace hM:=ifT hM hb25
        refine Ct hb25 ?_
        refine Sq ?_
        refine Rg 2 ?_
        refine zaK (v:=.sl .nil 0 []) (ns:=[.sl .nil 0 []]) (L':=[(g+3+1+0,.cells [.i v11,.i v12]),(g+3,.row 3 v13.length),(g+1,.cells [.sl .nil 0 []]),(g+0,.cells (Train_.cells a0))]) 2 hS rfl rfl .no rfl rfl zfX nlb rfl fun H hS=>?_
        refine Oa (.b false) ?_
        refine Ni ?_
        refine zk5 (cs':=[.sl (.id (g4+1+5+2+9+2+2+3+2)) 1 (([]:List Int).map cI)]) (L':=[(g+3+1+0,.cells [.i v11,.i v12]),(g+3,.row 3 v13.length),(g+1,.cells [.sl (.id (g4+1+5+2+9+2+2+3+2)) 1 (([]:List Int).map cI)]),(g+0,.cells (Train_.cells a0))]) 2 0 1 3 hS (by omega) (by decide) rfl rfl rfl rfl fun H hS=>?_
        replace hS:=hS.keep (L':=[(g4+1+5+2+9+2+2+3+2,.row 3 0),(g+1,.cells [.sl (.id (g4+1+5+2+9+2+2+3+2)) 1 (([]:List Int).map cI)])]) [true,false,false,true,false] rfl
        refine Ws ?_
        refine zaB ?_
        refine zak ?_
        refine zaq ?_
        refine zaq ?_
        refine zaI ?_
        refine zaL ?_
        refine zaq ?_
        refine zaI ?_
        obtain rfl:=Option.some.inj hM
        exact znw 0 (.inr rfl) (zbn (zcC (x:=.sl (.id (g4+1+5+2+9+2+2+3+2)) 1 (([]:List Int).map cI)) 1 hS rfl rfl (po zbr zcc)) (zad (x:=.b false) rfl)) hS rfl
       ·replace hM:=ifF hM hb25
        refine Cf hb25 ?_
        refine zas ?_
        refine Ws ?_
        refine Rg 2 ?_
        refine zaJ (by decide) zfM rfl ?_
        refine zaK (v:=.i 1) (ns:=[.i 1]) (L':=[(g+3+1+0,.cells [.i v11,.i 1]),(g+3,.row 3 v13.length),(g+1,.cells [.sl (.id (g+3)) 1 (v13.map cI)]),(g+0,.cells (Train_.cells a0))]) 0 hS rfl rfl .no rfl rfl zfs nlb rfl fun H hS=>?_
        refine Ni ?_
        refine zae ?_
        refine zae ?_
        exact zai (v11,1,v13) (.k (.k (.k (.k (.k (.k (.k (.k .nil)))))))) ⟨(hS.keep [true,true,true,true] rfl).up (by omega),hM⟩
      ·replace hM:=ifF hM hb24
       refine Cf hb24 ?_
       refine Sq ?_
       refine Rg 2 ?_
       refine Oi (.b (r21==3)) ?_
       refine Oa (.b (r21==3)) ?_
       refine Ni ?_
       refine Ws ?_
       rcases bft (r21==3) with hb26 | hb26
       ·replace hM:=ifT hM hb26
        refine Ct hb26 ?_
        refine Sq ?_
        refine Sq ?_
        refine Rg 3 ?_
        refine Om (.fn (.func 98) [] [.ptr (g+1) 0,.ptr (g+3+1+0) 0,.ptr (g+0) 0]) ?_
        obtain ⟨r27,hr27,hM⟩:=zal hM
        have hndr27:=hS.nd_at (ns:=[2,1,0,3]) (M:=[(g+1,.cells [.sl (.id (g+3)) 1 (v13.map cI)]),(g+3,.row 3 v13.length),(g+3+1+0,.cells [.i v11,.i v12]),(g+0,.cells (Train_.cells a0))]) (M':=[(g+1,.cells [.sl (.id (g+3)) 1 (r27.2.map cI)]),(g+3,.row 3 r27.2.length),(g+3+1+0,.cells [.i v11,.i v12]),(g+0,.cells (Train_.cells a0))]) (.cons rfl (.cons rfl (.cons rfl (.cons rfl .nil)))) (by decide)
        refine zkf (bs:=[.ptr (g+1) 0,.ptr (g+3+1+0) 0,.ptr (g+0) 0]) (M:=[(g+1,.cells [.sl (.id (g+3)) 1 (v13.map cI)]),(g+3,.row 3 v13.length),(g+3+1+0,.cells [.i v11,.i v12]),(g+0,.cells (Train_.cells a0))]) (M':=[(g+1,.cells [.sl (.id (g+3)) 1 (r27.2.map cI)]),(g+3,.row 3 r27.2.length),(g+3+1+0,.cells [.i v11,.i v12]),(g+0,.cells (Train_.cells a0))]) (L':=[(g+3+1+0,.cells [.i v11,.i v12]),(g+3,.row 3 r27.2.length),(g+1,.cells [.sl (.id (g+3)) 1 (r27.2.map cI)]),(g+0,.cells (Train_.cells a0))]) [2,1,0,3] (.inl rfl) hS (by decide) rfl rfl ((zfA (p1:=g+1) (w1:=g+3) (p2:=g+3+1+0) (p3:=g+0) hndr27 hr27).le (.k (.k (.k .nil)))) (.cons rfl (.cons rfl (.cons rfl (.cons rfl .nil)))) rfl (by omega) fun H hS=>?_
        refine zdc (e:=r27.1) (by decide) rfl ?_
        refine Ni ?_
        refine Ws ?_
        rcases bft (!r27.1) with hb28 | hb28
        ·replace hM:=ifT hM hb28
         refine Ct hb28 ?_
         refine Sq ?_
         refine Rg 2 ?_
         refine zaK (v:=.sl .nil 0 []) (ns:=[.sl .nil 0 []]) (L':=[(g+3+1+0,.cells [.i v11,.i v12]),(g+3,.row 3 r27.2.length),(g+1,.cells [.sl .nil 0 []]),(g+0,.cells (Train_.cells a0))]) 2 hS rfl rfl .no rfl rfl zfX nlb rfl fun H hS=>?_
         refine Oa (.b false) ?_
         refine Ni ?_
         refine zk5 (cs':=[.sl (.id (g4+1+5+2+9+2+2+2+3+2)) 1 (([]:List Int).map cI)]) (L':=[(g+3+1+0,.cells [.i v11,.i v12]),(g+3,.row 3 r27.2.length),(g+1,.cells [.sl (.id (g4+1+5+2+9+2+2+2+3+2)) 1 (([]:List Int).map cI)]),(g+0,.cells (Train_.cells a0))]) 2 0 1 3 hS (by omega) (by decide) rfl rfl rfl rfl fun H hS=>?_
         replace hS:=hS.keep (L':=[(g4+1+5+2+9+2+2+2+3+2,.row 3 0),(g+1,.cells [.sl (.id (g4+1+5+2+9+2+2+2+3+2)) 1 (([]:List Int).map cI)])]) [true,false,false,true,false] rfl
         refine Ws ?_
         refine zaB ?_
         refine zak ?_
         refine zaq ?_
         refine zaq ?_
         refine zaI ?_
         refine zaL ?_
         refine zaq ?_
         refine zaI ?_
         obtain rfl:=Option.some.inj hM
         exact znw 0 (.inr rfl) (zbn (zcC (x:=.sl (.id (g4+1+5+2+9+2+2+2+3+2)) 1 (([]:List Int).map cI)) 1 hS rfl rfl (po zbr zcc)) (zad (x:=.b false) rfl)) hS rfl
        ·replace hM:=ifF hM hb28
         refine Cf hb28 ?_
         refine zas ?_
         refine Ws ?_
         refine Rg 2 ?_
         refine zcm (cs:=[.i 1,.i 0]) (by decide) zj0 zpx rfl ?_
         refine zaK (v:=.agg [.i 1,.i 0]) (ns:=[.i 1,.i 0]) (L':=[(g+3+1+0,.cells [.i 1,.i 0]),(g+3,.row 3 r27.2.length),(g+1,.cells [.sl (.id (g+3)) 1 (r27.2.map cI)]),(g+0,.cells (Train_.cells a0))]) 0 hS rfl rfl .no rfl rfl znD nlb rfl fun H hS=>?_
         refine Ni ?_
         refine zae ?_
         refine zae ?_
         exact zai (1,0,r27.2) (.k (.k (.k (.k (.k (.k (.k (.k .nil)))))))) ⟨(hS.keep [true,true,true,true] rfl).up (by omega),hM⟩
       ·replace hM:=ifF hM hb26
        refine Cf hb26 ?_
        refine Sq ?_
        refine Rg 2 ?_
        refine zaK (v:=.sl .nil 0 []) (ns:=[.sl .nil 0 []]) (L':=[(g+3+1+0,.cells [.i v11,.i v12]),(g+3,.row 3 v13.length),(g+1,.cells [.sl .nil 0 []]),(g+0,.cells (Train_.cells a0))]) 2 hS rfl rfl .no rfl rfl zfX nlb rfl fun H hS=>?_
        refine Oa (.b false) ?_
        refine Ni ?_
        refine zk5 (cs':=[.sl (.id (g4+1+5+2+9+2+2+2+2)) 1 (([]:List Int).map cI)]) (L':=[(g+3+1+0,.cells [.i v11,.i v12]),(g+3,.row 3 v13.length),(g+1,.cells [.sl (.id (g4+1+5+2+9+2+2+2+2)) 1 (([]:List Int).map cI)]),(g+0,.cells (Train_.cells a0))]) 2 0 1 3 hS (by omega) (by decide) rfl rfl rfl rfl fun H hS=>?_
        replace hS:=hS.keep (L':=[(g4+1+5+2+9+2+2+2+2,.row 3 0),(g+1,.cells [.sl (.id (g4+1+5+2+9+2+2+2+2)) 1 (([]:List Int).map cI)])]) [true,false,false,true,false] rfl
        refine Ws ?_
        refine zaB ?_
        refine zaq ?_
        refine zaq ?_
        refine zaI ?_
        refine zaL ?_
        refine zaq ?_
        refine zaI ?_
        obtain rfl:=Option.some.inj hM
        exact znw 0 (.inr rfl) (zbn (zcC (x:=.sl (.id (g4+1+5+2+9+2+2+2+2)) 1 (([]:List Int).map cI)) 1 hS rfl rfl (po zbr zcc)) (zad (x:=.b false) rfl)) hS rfl
  ·replace hM:=ifF hM hb14
   refine Cf hb14 ?_
   refine zbw ?_
   refine zar ?_
   refine zao ?_
   refine zaw ?_
   exact zai (v11,v12,v13) (.k (.k (.k .nil))) ⟨(hS.keep [true,true,true,true] rfl).up (by omega),hM⟩
theorem zgc {S:Type} {Lo:S->BL} (hk:∀s s',zgl (Lo s) (Lo s')) {p1:Nat} (hnd:∀s,([p1]++ids (Lo s)).Nodup) (hin:∀s,InB In (Lo s)) {aF:Reading_->S->Option (Bool×S)} {f0:AV} (hF:∀s H,Has H (Lo s)->In H f0) (h0:cellsOf f0=some [f0]) (hf:∀{x0:Reading_} {s:S} {r:Bool×S},aF x0 s=some r->zjP Tryz.prog f0 [.agg (Reading_.cells x0)] (Lo s) (.b r.1) (Lo r.2)) {n:Nat} {a0:Int} {a1:Train_} {st:S} {r:Bool×S} (hM:za7 n aF a0 a1 st=some r):zhv Tryz.prog 74 [.v (.int .u64 a0),.ptr p1 0,.ep [f0]] ([(p1,.cells (Train_.cells a1))]++Lo st) (.b r.1) ([(p1,.cells (Train_.cells a1))]++Lo r.2):=by
 have hnd0:∀s,(ids (Lo s)).Nodup:=fun s=>(List.nodup_append.1 (hnd s)).2.1
 refine zbg mixed Tryz.func74 rfl (by decide) Tryz.ntmps74 (by simp) (zoy (zb6 zd8) (hk _ _)) (hnd st) ?pure ?cells fun H0 g hf_ hp=>?_
 case pure=>exact fun H _=>(show Go.AM.Pure _ from .v _).inH
 case cells=>exact (zgI (zcp (zax (.inl (.inl (.v _))) (zax (.inl (.inl (.v _))) (zax (.inl (.inl (.v _))) (zax (.inl (.inl (.v _))) (zax (.inl (.inl (.v _))) (zax (.inl (.inl (.v _))) (zax (.inl (.inl (.v _))) (zax (.inl (.inl (.sl _ _ (zau (fun x=>(zaa (.v _) zaC)))))) zeO)))))))) zgH) (hin _))
 rw [zag]
 change wpA _ _ _ _ (Fr.of [(0,.v (.int .u64 a0)),(1,.ptr p1 0),(2,.ep [f0])]) H0 g
 have hS:=St.startH (L:=([(p1,.cells (Train_.cells a1))]++Lo st)) hf_ (ztL (hnd st)) hp
 replace hS:St (fun i=>i<g/\i∉ids ([(p1,.cells (Train_.cells a1))]++Lo st)) H0 ([(p1,.cells (Train_.cells a1))]++Lo st) H0 g:=hS
 refine Sq ?_
 refine Rg 1 ?_
 refine Oa (.b false) ?_
 refine Ni ?_
 refine Ws ?_
 refine Sq ?_
 refine Rg 1 ?_
 refine Oa (.sl .nil 0 []) ?_
 refine Ni ?_
 refine zq2 [(0,.v (.int .u64 a0)),(1,.ptr p1 0),(2,.ep [f0]),(5,.sl (.id (g+1+1)) 1 (([]:List Int).map cI))] 5 1 3 hS (by omega) (by decide) rfl (.k (.k (.k (.k .nil)))) fun H hS=>?_
 refine zaF (J:=(List Int)) (fun j=>[(0,.v (.int .u64 a0)),(1,.ptr p1 0),(2,.ep [f0]),(5,.sl (.id (g+1+1)) 1 (j.map cI))]) (fun j H' g'=>St (fun i=>i<g/\i∉ids ([(p1,.cells (Train_.cells a1))]++Lo st)) H0 ([(g+1+1,.row 3 j.length),(p1,.cells (Train_.cells a1))]++Lo st) H' g'/\zbJ n a0 aF st a1 j=some r) ?_ ?_
 ·rintro v1 H g1 ⟨hS,hM⟩
  change wpA _ _ _ _ (Fr.of [(0,.v (.int .u64 a0)),(1,.ptr p1 0),(2,.ep [f0]),(5,.sl (.id (g+1+1)) 1 (v1.map cI))]) _ _
  replace hS:St (fun i=>i<g/\i∉ids ([(p1,.cells (Train_.cells a1))]++Lo st)) H0 ([(g+1+1,.row 3 v1.length),(p1,.cells (Train_.cells a1))]++Lo st) H g1:=hS
  replace hM:zbJ n a0 aF st a1 v1=some r:=hM
  refine Sq ?_
  refine Rg 8 ?_
  refine zaW (v:=.agg (Train_.cells a1)) 1 hS (by decide) rfl rfl .no (pg zhj) ?_
  refine Om (.sl (.id (g+1+1)) 1 (v1.map cI)) ?_
  obtain ⟨r2,hr2,hM⟩:=zal hM
  refine zat (bs:=[.agg (Train_.cells a1),.sl (.id (g+1+1)) 1 (v1.map cI)]) (by decide) rfl rfl ((zi8 hr2).le (.k (.cons (.sl _ _ _) .nil))) ?_
  refine Om (.tup [.sl .fr 1 (r2.1.map cI),.b r2.2]) ?_
  refine Ox (.sl .fr 1 (r2.1.map cI)) ?_
  refine Ox (.b r2.2) ?_
  refine Oa (.sl .fr 1 (r2.1.map cI)) ?_
  refine Oa (.b r2.2) ?_
  refine Ni ?_
  replace hS:=hS.keep (L':=([(p1,.cells (Train_.cells a1))]++Lo st)) [false,true] rfl
  refine Ws ?_
  refine zaF (J:=Bool×S) (fun j=>[(4,.b j.1)]) (fun j H' g'=>St (fun i=>i<g/\i∉ids ([(p1,.cells (Train_.cells a1))]++Lo st)) H0 ([(p1,.cells (Train_.cells a1))]++Lo j.2) H' g'/\zbd j.1 j.2=some r) ?_ ?_
  ·rintro ⟨v3,v4⟩ H g2 ⟨hS,hM⟩
   change wpA _ _ _ _ (Fr.of [(4,.b v3)]) _ _
   replace hS:St (fun i=>i<g/\i∉ids ([(p1,.cells (Train_.cells a1))]++Lo st)) H0 ([(p1,.cells (Train_.cells a1))]++Lo v4) H g2:=hS
   replace hM:zbd v3 v4=some r:=hM
   refine zaB ?_
   refine zcD (x:=.b v3) (f:=fun r=>.b r.1) (fd:=fun r=>([(p1,.cells (Train_.cells a1))]++Lo r.2)) (.inr rfl) ?_ (.refl _) (Option.some.inj hM) hS 0 rfl
   exact (zam (zad (x:=.b v3) rfl))
  ·refine Rg 10 ?_
   refine Om (.b r2.2) ?_
   refine zdc (e:=r2.2) (by decide) rfl ?_
   refine Om (.b (!r2.2)) ?_
   rcases bft (!r2.2) with hb5 | hb5
   ·replace hM:=ifT hM hb5
    refine On (want:=false) hb5 ?_
    refine On (want:=false) hb5 ?_
    refine On (want:=false) hb5 ?_
    refine On (want:=false) hb5 ?_
    refine On (want:=false) hb5 ?_
    refine Pt (.b true) hb5 ?_
    refine Oa (.b true) ?_
    refine Ni ?_
    exact zai (true,st) (.k .nil) ⟨(hS.keep [true] rfl).up (by omega),hM⟩
   ·replace hM:=ifF hM hb5
    refine Oy (want:=false) hb5 ?_
    refine Olp (f0) zrM ztd ?_
    refine Oy (want:=false) hb5 ?_
    refine Om (.v (.int .u64 a0)) ?_
    refine Oy (want:=false) hb5 ?_
    refine Om (.sl .fr 1 (r2.1.map cI)) ?_
    refine Oy (want:=false) hb5 ?_
    refine zcm (cs:=[.v (.int .u64 a0),.sl .fr 1 (r2.1.map cI)]) (by decide) zli zux rfl ?_
    refine Oy (want:=false) hb5 ?_
    obtain ⟨r6,hr6,hM⟩:=zal hM
    replace hS:St (fun i=>i<g/\i∉ids ([(p1,.cells (Train_.cells a1))]++Lo st)) H0 ([(p1,.cells (Train_.cells a1))]++Lo st) _ _:=hS
    refine zhN (bs:=[.agg [.v (.int .u64 a0),.sl .fr 1 (r2.1.map cI)]]) (.inl rfl) hS (by decide) rfl rfl ((hf hr6).le (.k .nil)) (hk _ _).ids (by omega) fun H hS=>?_
    refine Pf (.b r6.1) hb5 ?_
    refine Oa (.b r6.1) ?_
    refine Ni ?_
    exact zai (r6.1,r6.2) (.k .nil) ⟨(hS.keep [true] rfl).up (by omega),hM⟩
 ·refine Sq ?_
  refine Rg 5 ?_
  refine zaJ (by decide) zc1 rfl ?_
  refine zaJ (by decide) zdW rfl ?_
  refine zaW (v:=.sl .no 1 (a1.Pulse.Times.map cI)) 1 hS (by decide) rfl rfl .no (po zbr zcc) ?_
  refine zco (n:=a1.Pulse.Times.length) (by decide) rfl (List.length_map _) zbc ?_
  refine Om (.i 0) ?_
  refine Ni ?_
  refine Ws ?_
  refine zap ?_
  refine zbI (V:=(List Int)×Int) (fun v=>[(0,.v (.int .u64 a0)),(1,.ptr p1 0),(2,.ep [f0]),(5,.sl (.id (g+1+1)) 1 (v.1.map cI)),(12,.sl .no 1 (a1.Pulse.Times.map cI)),(13,.i (a1.Pulse.Times.length:Int)),(14,.i v.2)]) (fun v m3 H' g'=>St (fun i=>i<g/\i∉ids ([(p1,.cells (Train_.cells a1))]++Lo st)) H0 ([(g+1+1,.row 3 v.1.length),(p1,.cells (Train_.cells a1))]++Lo st) H' g'/\zaD n a0 aF st a1 m3 v.1 v.2=some r) (n:=n) (([]:List Int),0) (.k (.k (.k (.k (.k (.k (.k .nil))))))) ⟨(hS.keep [true,true] rfl).up (by omega),hM⟩ ?_
  rintro ⟨v7,v8⟩ m3 H g3 ⟨hS,hM⟩
  obtain _ | m3:=m3
  ·exact nomatch (show none=some _ from hM)
  change wpA _ _ _ _ (Fr.of [(0,.v (.int .u64 a0)),(1,.ptr p1 0),(2,.ep [f0]),(5,.sl (.id (g+1+1)) 1 (v7.map cI)),(12,.sl .no 1 (a1.Pulse.Times.map cI)),(13,.i (a1.Pulse.Times.length:Int)),(14,.i v8)]) _ _
  replace hS:St (fun i=>i<g/\i∉ids ([(p1,.cells (Train_.cells a1))]++Lo st)) H0 ([(g+1+1,.row 3 v7.length),(p1,.cells (Train_.cells a1))]++Lo st) H g3:=hS
  replace hM:zbt n a0 aF st a1 (zaD n a0 aF st a1 m3) v7 v8=some r:=hM
  refine Sq ?_
  refine Rg 1 ?_
  refine Oi (.b (decide (v8<(a1.Pulse.Times.length:Int)))) ?_
  refine Ni ?_
  refine Ws ?_
  refine Sq ?_
  rcases bft (decide (v8<(a1.Pulse.Times.length:Int))) with hb9 | hb9
  ·replace hM:=ifT hM hb9
   refine Ct hb9 ?_
   refine zas ?_
   refine Ws ?_
   refine zaF (J:=(List Int)) (fun j=>[(0,.v (.int .u64 a0)),(1,.ptr p1 0),(2,.ep [f0]),(5,.sl (.id (g+1+1)) 1 (j.map cI)),(12,.sl .no 1 (a1.Pulse.Times.map cI)),(13,.i (a1.Pulse.Times.length:Int)),(14,.i v8)]) (fun j H' g'=>St (fun i=>i<g/\i∉ids ([(p1,.cells (Train_.cells a1))]++Lo st)) H0 ([(g+1+1,.row 3 j.length),(p1,.cells (Train_.cells a1))]++Lo st) H' g'/\zbe (zaD n a0 aF st a1 m3) v8 j=some r) ?_ ?_
   ·rintro v10 H g4 ⟨hS,hM⟩
    change wpA _ _ _ _ (Fr.of [(0,.v (.int .u64 a0)),(1,.ptr p1 0),(2,.ep [f0]),(5,.sl (.id (g+1+1)) 1 (v10.map cI)),(12,.sl .no 1 (a1.Pulse.Times.map cI)),(13,.i (a1.Pulse.Times.length:Int)),(14,.i v8)]) _ _
    replace hS:St (fun i=>i<g/\i∉ids ([(p1,.cells (Train_.cells a1))]++Lo st)) H0 ([(g+1+1,.row 3 v10.length),(p1,.cells (Train_.cells a1))]++Lo st) H g4:=hS
    replace hM:zbe (zaD n a0 aF st a1 m3) v8 v10=some r:=hM
    refine Rg 2 ?_
    refine Oi (.i (w64 (v8+1))) ?_
    refine Om (.i (w64 (v8+1))) ?_
    refine Ni ?_
    exact za4 (v10,w64 (v8+1)) (Nat.lt_succ_self _) (.k (.k (.k (.k (.k (.k (.k .nil))))))) ⟨(hS.keep [true,true] rfl).up (by omega),hM⟩
   ·refine zap ?_
    refine Sq ?_
    refine Rg 5 ?_
    refine Om (.i v8) ?_
    obtain ⟨x11,hx11,hM⟩:=zal hM
    refine zbj (xs:=a1.Pulse.Times) (f:=cI) (z:=v8) (u:=x11) (by decide) rfl rfl zbi hx11 ?_
    refine Olp (.i x11) zac zah ?_
    refine Oa (.i v8) ?_
    refine Oa (.i x11) ?_
    refine Ni ?_
    refine Ws ?_
    refine Sq ?_
    refine Rg 4 ?_
    refine Om (.v (.int .u64 a0)) ?_
    refine Om (.i v8) ?_
    obtain ⟨r12,hr12,hM⟩:=zal hM
    refine zat (bs:=[.v (.int .u64 a0),.i v8]) (by decide) rfl rfl ((zkl hr12).le (.k (.k .nil))) ?_
    refine zdc (e:=r12) (by decide) rfl ?_
    refine Ni ?_
    refine Ws ?_
    rcases bft (!r12) with hb13 | hb13
    ·replace hM:=ifT hM hb13
     refine Ct hb13 ?_
     refine Rg 5 ?_
     refine Om (.sl (.id (g+1+1)) 1 (v7.map cI)) ?_
     refine Om (.i x11) ?_
     refine zaX (es:=[[.i x11]]) hS (by decide) zbi zes rfl zet rfl (by decide) (by omega) fun H hS=>?_
     obtain ⟨l14,hl14,hM⟩:=zal hM
     refine zdd (xs:=v7) (ys:=([x11]:List Int)) (zs:=l14) (f:=cI) (L':=([(g3+1+5+4+2,.row 3 1),(g+1+1,.row 3 l14.length),(p1,.cells (Train_.cells a1))]++Lo st)) 1 hS (by decide) rfl rfl rfl rfl .no zbi zes zet hl14 rfl fun H hS=>?_
     refine Oa (.sl (.id (g+1+1)) 1 (l14.map cI)) ?_
     refine Ni ?_
     refine zae ?_
     exact zai l14 (.k (.k (.k (.k (.k (.k (.k .nil))))))) ⟨(hS.keep [false,true,true] rfl).up (by omega),hM⟩
    ·replace hM:=ifF hM hb13
     refine Cf hb13 ?_
     refine zas ?_
     refine zae ?_
     exact zai v7 (.k (.k (.k (.k (.k (.k (.k .nil))))))) ⟨(hS.keep [true,true] rfl).up (by omega),hM⟩
  ·replace hM:=ifF hM hb9
   refine Cf hb9 ?_
   refine zbw ?_
   refine zar ?_
   refine zao ?_
   refine zaw ?_
   exact zai v7 (.k (.k (.k (.k .nil)))) ⟨(hS.keep [true,true] rfl).up (by omega),hM⟩
theorem zg8 {S:Type} {Lo:S->BL} (hk:∀s s',zgl (Lo s) (Lo s')) {p1 p2:Nat} (hnd:∀s,([p1,p2]++ids (Lo s)).Nodup) (hin:∀s,InB In (Lo s)) {aF:Reading_->S->Option (Bool×S)} {f0:AV} (hF:∀s H,Has H (Lo s)->In H f0) (h0:cellsOf f0=some [f0]) (hf:∀{x0:Reading_} {s:S} {r:Bool×S},aF x0 s=some r->zjP Tryz.prog f0 [.agg (Reading_.cells x0)] (Lo s) (.b r.1) (Lo r.2)) {n:Nat} {a1:Train_} {a2:Int} {st:S} {r:Unit×S} (hM:zcE n aF a1 a2 st=some r):zhv Tryz.prog 72 [f0,.ptr p1 0,.ptr p2 0] ([(p1,.cells (Train_.cells a1)),(p2,.cells [.i a2])]++Lo st) (.tup []) ([(p1,.cells (Train_.cells a1)),(p2,.cells [.i a2])]++Lo r.2):=by
 have hnd0:∀s,(ids (Lo s)).Nodup:=fun s=>(List.nodup_append.1 (hnd s)).2.1
 refine zbg mixed Tryz.func72 rfl (by decide) Tryz.ntmps72 (by simp) (zoy (zb6 (zb6 zd8)) (hk _ _)) (hnd st) ?pure ?cells fun H0 g hf_ hp=>?_
 case pure=>exact fun H _=>(show Go.AM.Pure _ from .tup _ zaC).inH
 case cells=>exact (zgI (zcp (zax (.inl (.inl (.v _))) (zax (.inl (.inl (.v _))) (zax (.inl (.inl (.v _))) (zax (.inl (.inl (.v _))) (zax (.inl (.inl (.v _))) (zax (.inl (.inl (.v _))) (zax (.inl (.inl (.v _))) (zax (.inl (.inl (.sl _ _ (zau (fun x=>(zaa (.v _) zaC)))))) zeO)))))))) (zcp (zax (.inl (.inl (.v _))) zeO) zgH)) (hin _))
 rw [zag]
 change wpA _ _ _ _ (Fr.of [(0,f0),(1,.ptr p1 0),(2,.ptr p2 0)]) H0 g
 have hS:=St.startH (L:=([(p1,.cells (Train_.cells a1)),(p2,.cells [.i a2])]++Lo st)) hf_ (ztL (hnd st)) hp
 replace hS:St (fun i=>i<g/\i∉ids ([(p1,.cells (Train_.cells a1)),(p2,.cells [.i a2])]++Lo st)) H0 ([(p1,.cells (Train_.cells a1)),(p2,.cells [.i a2])]++Lo st) H0 g:=hS
 refine Sq ?_
 refine Rg 1 ?_
 refine zbP (v:=f0) (cs:=[f0]) hS (by decide) rfl h0 (by omega) fun H hS=>?_
 refine Ni ?_
 refine zaT (L':=([(p1,.cells (Train_.cells a1)),(p2,.cells [.i a2])]++Lo st)) 0 3 hS rfl rfl rfl fun H hS=>?_
 refine Ws ?_
 refine Rg 4 ?_
 refine zaW (v:=.agg (Train_.cells a1)) 0 hS (by decide) rfl rfl .no (pg zhj) ?_
 refine zaW (v:=.i a2) 1 hS (by decide) rfl rfl .no (po zac zah) ?_
 refine zce (first:=[]) (cap:=[.ptr p1 0,.ep [f0]]) (by decide) rfl rfl ?_
 obtain ⟨r1,hr1,hM⟩:=zal hM
 replace hS:St (fun i=>i<g/\i∉ids ([(p1,.cells (Train_.cells a1)),(p2,.cells [.i a2])]++Lo st)) H0 ([(p1,.cells (Train_.cells a1)),(p2,.cells [.i a2])]++Lo st) _ _:=hS
 have hndr1:=hS.nd_atS (ns:=[0]) (A:=[(p1,.cells (Train_.cells a1))]) (A':=[(p1,.cells (Train_.cells a1))]) (.cons rfl .nil) (by decide)
 have hncr1:=hS.nd_atS (ns:=[0]) (A:=[(p1,.cells (Train_.cells a1))]) (A':=[(p1,.cells (Train_.cells a1))]) (.cons rfl .nil) (by decide)
 refine zud (bs:=[.agg (Train_.cells a1),.v (.int .u64 0),.i 0,.i a2,.fn (.func 74) [] [.ptr p1 0,.ep [f0]]]) (A:=[(p1,.cells (Train_.cells a1))]) (A':=[(p1,.cells (Train_.cells a1))]) (M:=Lo st) (M':=Lo r1.2) (L':=[(p1,.cells (Train_.cells a1)),(p2,.cells [.i a2])]) [0] (.inl rfl) hS (by decide) rfl rfl ((zgZ (Lo:=(fun s=>([(p1,.cells (Train_.cells a1))]++Lo s)))  (fun _ _=>zoy (zb6 zd8) (hk _ _)) (fun s=>zrh (T':=Lo s) (hk _ _) hndr1) (fun s=>(zgI (zcp (zax (.inl (.inl (.v _))) (zax (.inl (.inl (.v _))) (zax (.inl (.inl (.v _))) (zax (.inl (.inl (.v _))) (zax (.inl (.inl (.v _))) (zax (.inl (.inl (.v _))) (zax (.inl (.inl (.v _))) (zax (.inl (.inl (.sl _ _ (zau (fun x=>(zaa (.v _) zaC)))))) zeO)))))))) zgH) (hin _))) (aF:=(fun (x0:Int) s=>za7 n aF x0 a1 s)) (fun s H hH=>(.fn _ _ _ zbV (zaM (zjm hH 0 rfl) (zaM (.ep _ (zaM (hF _ H (zsN hH)) zbV)) zbV)))) rfl (fun h=>zlb (zgc (Lo:=Lo) (p1:=p1)  hk (fun _=>zrh (hk _ _) hncr1) hin hF h0 hf h)) hr1).le (.k (.k (.k (.k (.k .nil)))))) (.cons rfl .nil) (hk _ _).ids rfl (by omega) fun H hS=>?_
 refine Ni ?_
 refine zcD (x:=.tup []) (f:=fun r=>.tup []) (fd:=fun r=>([(p1,.cells (Train_.cells a1)),(p2,.cells [.i a2])]++Lo r.2)) (.inl rfl) ?_ (.refl _) (Option.some.inj hM) hS 0 rfl
 exact rfl
theorem zfz {w0 p1 p2:Nat} (hnd:[w0,p1,p2].Nodup) {n:Nat} {a0:List Reading_} {a91:Train_} {a92:Int} {r:(List Reading_)} (hM:zbK n a0 a91 a92=some r):zhv Tryz.prog 52 [.sl (.id w0) 2 (a0.map Reading_.cells),.fn (.func 72) [] [.ptr p1 0,.ptr p2 0]] [(w0,.row 94 a0.length),(p1,.cells (Train_.cells a91)),(p2,.cells [.i a92])] (.sl (.id w0) 2 (r.map Reading_.cells)) [(w0,.row 94 r.length),(p1,.cells (Train_.cells a91)),(p2,.cells [.i a92])]:=by
 refine zbg mixed Tryz.func52 rfl (by decide) Tryz.ntmps52 (by simp) (zpd (zb6 (zb6 zd8))) hnd ?pure ?cells fun H0 g hf_ hp=>?_
 case pure=>exact fun H hH=>zvh hH 0 rfl (zau (fun x=>(zaa (.v _) (zaa (.fr _ _ (zau (fun x=>(zaa (.v _) zaC)))) zaC))))
 case cells=>exact (zug (zgI (zcp (zax (.inl (.inl (.v _))) (zax (.inl (.inl (.v _))) (zax (.inl (.inl (.v _))) (zax (.inl (.inl (.v _))) (zax (.inl (.inl (.v _))) (zax (.inl (.inl (.v _))) (zax (.inl (.inl (.v _))) (zax (.inl (.inl (.sl _ _ (zau (fun x=>(zaa (.v _) zaC)))))) zeO)))))))) (zcp (zax (.inl (.inl (.v _))) zeO) zgH)) zd3))
 rw [zag]
 change wpA _ _ _ _ (Fr.of [(0,.sl (.id w0) 2 (a0.map Reading_.cells)),(1,.fn (.func 72) [] [.ptr p1 0,.ptr p2 0])]) H0 g
 have hS:=St.startH (L:=[(w0,.row 94 a0.length),(p1,.cells (Train_.cells a91)),(p2,.cells [.i a92])]) hf_ hnd hp
 replace hS:St (fun i=>i<g/\i∉ids [(w0,.row 94 a0.length),(p1,.cells (Train_.cells a91)),(p2,.cells [.i a92])]) H0 [(w0,.row 94 a0.length),(p1,.cells (Train_.cells a91)),(p2,.cells [.i a92])] H0 g:=hS
 refine Sq ?_
 refine Rg 2 ?_
 refine zbP (v:=.sl (.id w0) 2 (a0.map Reading_.cells)) (cs:=[.sl (.id w0) 2 (a0.map Reading_.cells)]) hS (by decide) rfl rfl (by omega) fun H hS=>?_
 refine Oa (.sl .nil 0 []) ?_
 refine Ni ?_
 refine Ws ?_
 refine Sq ?_
 refine Sq ?_
 refine Rg 1 ?_
 refine Om (.fn (.func 72) [] [.ptr p1 0,.ptr p2 0]) ?_
 refine Ni ?_
 refine Ws ?_
 refine zap ?_
 obtain ⟨r3,hr3,hM⟩:=zal hM
 refine zpf (Lo:=fun s:(List Reading_)=>[(g+0,.cells [.sl (.id w0) 2 (s.map Reading_.cells)]),(w0,.row 94 s.length)]) (R:=fun x s b s'=>∃y,x=.agg (Reading_.cells y)/\za2 y s=some (b,s')) (s0:=a0) (sF:=r3.2) (A:=[(p1,.cells (Train_.cells a91)),(p2,.cells [.i a92])]) (A':=[(p1,.cells (Train_.cells a91)),(p2,.cells [.i a92])]) (L':=[(g+0,.cells [.sl (.id w0) 2 (r3.2.map Reading_.cells)]),(w0,.row 94 r3.2.length),(p1,.cells (Train_.cells a91)),(p2,.cells [.i a92])]) [(2,.ptr (g+0) 0)] [2,3,0,1] hS (by omega) rfl rfl rfl (.cons rfl (.cons rfl (.cons rfl (.cons rfl .nil)))) (by decide) rfl (zb6 (zb6 zd8)) (fun _ _=>(zb6 (zpd zd8))) (fun s=>(zgI (zcp (zax (.inl (.inr ⟨_,_,_,_,_,rfl,List.mem_of_getElem? (i:=1) rfl,zau (fun x=>(zaa (.v _) (zaa (.fr _ _ (zau (fun x=>(zaa (.v _) zaC)))) zaC)))⟩)) zeO) (zq9 zgH)) zd3)) (fun s H hH=>(zaM (zjm hH 0 rfl) zbV)) (.k .nil) rfl (by decide) rfl ?_ (fun F Lx hk1 hnd1 hin1 hF1 h01 hf1=>zg8 (Lo:=Lx) (p1:=p1) (p2:=p2) hk1 hnd1 hin1 (aF:=za2) hF1 h01 (fun h=>hf1 _ _ _ _ ⟨_,rfl,h⟩) hr3) fun H hS=>?_
 ·rintro x v1 b s' ⟨y1,rfl,hM⟩
  refine ⟨rfl,fun H' g1 hf' hh'=>?_⟩
  have hS:=St.start hf'
  change wpA _ _ _ _ (Fr.of [(7,.agg (Reading_.cells y1)),(2,.ptr (g+0) 0)]) _ _
  refine Rg 2 ?_
  refine zcj hS (by decide) zli (by omega) fun H hS=>?_
  refine zaK (v:=.agg (Reading_.cells y1)) (ns:=(Reading_.cells y1)) (L':=[(g1+0,.cells (Reading_.cells y1))]) 0 hS rfl rfl .no rfl rfl zpv nlb rfl fun H hS=>?_
  refine Ni ?_
  refine zrl (l3:=[(2,.ptr (g+0) 0),(5,.ptr (g1+0) 0)]) (.k (.k .nil)) hS (by omega) fun Hb H hS=>?_
  replace hS:St (fun i=>i<g1/\i∉ids [(g+0,.cells [.sl (.id w0) 2 (v1.map Reading_.cells)]),(w0,.row 94 v1.length)]) Hb [(g1+0,.cells (Reading_.cells y1)),(g+0,.cells [.sl (.id w0) 2 (v1.map Reading_.cells)]),(w0,.row 94 v1.length)] H _:=hS
  refine zap ?_
  refine Rg 5 ?_
  refine zaW (v:=.sl (.id w0) 2 (v1.map Reading_.cells)) 1 hS (by decide) rfl rfl .no (po zpp zrA) ?_
  refine zaW (v:=.agg (Reading_.cells y1)) 0 hS (by decide) rfl rfl .no (pg zpu) ?_
  refine zmD (es:=[(Reading_.cells y1)]) (es':=[(Reading_.cells y1)]) hS (by decide) zoJ zrB rfl zrC rfl (by decide) (by omega) (zsX (zrw (.k (.k .nil)) zs2)) fun H hS=>?_
  obtain ⟨l2,hl2,hM⟩:=zal hM
  refine zdd (xs:=v1) (ys:=([y1]:List Reading_)) (zs:=l2) (f:=Reading_.cells) (L':=[(g1+2+2,.row 94 1),(g1+0,.cells (Reading_.cells y1)),(g+0,.cells [.sl (.id w0) 2 (v1.map Reading_.cells)]),(w0,.row 94 l2.length)]) 3 hS (by decide) rfl rfl rfl rfl .no zoJ zrB zrC hl2 rfl fun H hS=>?_
  refine zaK (v:=.sl (.id w0) 2 (l2.map Reading_.cells)) (ns:=[.sl (.id w0) 2 (l2.map Reading_.cells)]) (L':=[(g1+2+2,.row 94 1),(g1+0,.cells (Reading_.cells y1)),(g+0,.cells [.sl (.id w0) 2 (l2.map Reading_.cells)]),(w0,.row 94 l2.length)]) 2 hS rfl rfl .no rfl rfl zs7 nlb rfl fun H hS=>?_
  refine Ni ?_
  refine zae ?_
  injection hM with hM
  injection hM with hm1 hm2
  subst hm1 hm2
  exact ztK (hS.keep [false,false,true,true] rfl)
 refine zae ?_
 refine Ws ?_
 refine Sq ?_
 refine Rg 2 ?_
 refine zaW (v:=.sl (.id w0) 2 (r3.2.map Reading_.cells)) 0 hS (by decide) rfl rfl .no (po zpp zrA) ?_
 refine Oa (.sl (.id w0) 2 (r3.2.map Reading_.cells)) ?_
 refine Ni ?_
 replace hS:=hS.keep (L':=[(w0,.row 94 r3.2.length),(p1,.cells (Train_.cells a91)),(p2,.cells [.i a92])]) [false,true,true,true] rfl
 refine zej [(4,.sl (.id w0) 2 (r3.2.map Reading_.cells))] (.k .nil) ?_
 refine zaB ?_
 refine zcD (x:=.sl (.id w0) 2 (r3.2.map Reading_.cells)) (f:=fun r=>.sl (.id w0) 2 (r.map Reading_.cells)) (fd:=fun r=>[(w0,.row 94 r.length),(p1,.cells (Train_.cells a91)),(p2,.cells [.i a92])]) (.inr rfl) ?_ (.refl _) (Option.some.inj hM) hS 0 rfl
 exact (zam (zad (x:=.sl (.id w0) 2 (r3.2.map Reading_.cells)) rfl))
theorem zhW {a0:Train_} {a1:Int}:zl4 Tryz.prog 53 [.agg (Train_.cells a0),.i a1] (fun g=>.fn (.func 72) [] [.ptr g 0,.ptr (g+1) 0]) [.i a1] (Train_.cells a0):=by
 refine zri mixed Tryz.func53 rfl (by decide) Tryz.ntmps53 (by simp) (zaa (.v _) zaC) (zaa (.v _) (zaa (.v _) (zaa (.v _) (zaa (.v _) (zaa (.v _) (zaa (.v _) (zaa (.v _) (zaa (.sl _ _ (zau (fun x=>(zaa (.v _) zaC)))) zaC)))))))) (fun g H hH=>.fn _ _ _ zbV (zaM (zjm hH 1 rfl) (zaM (zjm hH 0 rfl) zbV))) fun H0 g hf=>?_
 rw [zag]
 change wpA _ _ _ _ (Fr.of [(0,.agg (Train_.cells a0)),(1,.i a1)]) H0 g
 have hS:=St.start hf
 refine Sq ?_
 refine Rg 3 ?_
 refine zbP (v:=.agg (Train_.cells a0)) (cs:=(Train_.cells a0)) hS (by decide) rfl rfl (by omega) fun H hS=>?_
 refine zbP (v:=.i a1) (cs:=[.i a1]) hS (by decide) rfl rfl (by omega) fun H hS=>?_
 refine Oa (.v .nilFunc) ?_
 refine Ni ?_
 refine Ws ?_
 refine Sq ?_
 refine Rg 2 ?_
 refine zce (first:=[]) (cap:=[.ptr (g+0) 0,.ptr (g+1) 0]) (by decide) rfl rfl ?_
 refine Oa (.fn (.func 72) [] [.ptr (g+0) 0,.ptr (g+1) 0]) ?_
 refine Ni ?_
 refine Ws ?_
 refine zaB ?_
 refine zvi (x:=.fn (.func 72) [] [.ptr (g+0) 0,.ptr (g+1) 0]) (.inr rfl) ?_ (.refl _) hS [true,true] rfl
 exact (zam (zad (x:=.fn (.func 72) [] [.ptr (g+0) 0,.ptr (g+1) 0]) rfl))
theorem zjE {S:Type} {Lo:S->BL} (hk:∀s s',zgl (Lo s) (Lo s')) (hnd:∀s,(ids (Lo s)).Nodup) (hin:∀s,InB In (Lo s)) {aF:Train_->S->Option (Bool×S)} {f0:AV} (hF:∀s H,Has H (Lo s)->In H f0) (h0:cellsOf f0=some [f0]) (hf:∀{x0:Train_} {s:S} {r:Bool×S},aF x0 s=some r->zjP Tryz.prog f0 [.agg (Train_.cells x0)] (Lo s) (.b r.1) (Lo r.2)) {n:Nat} {a0:Pulse} {st:S} {r:((List Reading_)×Int)×S} (hM:zgO n aF a0 st=some r):zhv Tryz.prog 23 [.agg (Pulse.cells a0),f0] (Lo st) (.tup [.sl .no 2 (r.1.1.map Reading_.cells),.i r.1.2]) (Lo r.2):=by
 have hnd0:∀s,(ids (Lo s)).Nodup:=fun s=>hnd s
 refine zbg mixed Tryz.func23 rfl (by decide) Tryz.ntmps23 (by simp) (hk _ _) (hnd st) ?pure ?cells fun H0 g hf_ hp=>?_
 case pure=>exact fun H _=>(show Go.AM.Pure _ from .tup _ (zaa (.sl _ _ (zau (fun x=>(zaa (.v _) (zaa (.fr _ _ (zau (fun x=>(zaa (.v _) zaC)))) zaC))))) (zaa (.v _) zaC))).inH
 case cells=>exact hin _
 rw [zag]
 change wpA _ _ _ _ (Fr.of [(0,.agg (Pulse.cells a0)),(1,f0)]) H0 g
 have hS:=St.startH (L:=([]++Lo st)) hf_ (hnd st) hp
 replace hS:St (fun i=>i<g/\i∉ids (Lo st)) H0 ([]++Lo st) H0 g:=hS
 refine Sq ?_
 refine Rg 3 ?_
 refine zbP (v:=.agg (Pulse.cells a0)) (cs:=(Pulse.cells a0)) hS (by decide) rfl rfl (by omega) fun H hS=>?_
 refine Oa (.sl .nil 0 []) ?_
 refine Oa (.i 0) ?_
 refine Ni ?_
 refine zaT (L':=([]++Lo st)) 0 2 hS rfl rfl rfl fun H hS=>?_
 refine Ws ?_
 refine Sq ?_
 refine Sq ?_
 refine Rg 3 ?_
 refine Olg (.agg (Pulse.cells a0)) zbM ?_
 obtain ⟨r1,hr1,hM⟩:=zal hM
 refine zat (bs:=[.agg (Pulse.cells a0)]) (by decide) rfl rfl ((ziU hr1).le (.k .nil)) ?_
 refine Oa (.i r1) ?_
 refine Ni ?_
 refine Ws ?_
 refine Sq ?_
 refine Rg 2 ?_
 refine Om (.i r1) ?_
 refine Oi (.b (r1 != 0)) ?_
 refine Ni ?_
 refine Ws ?_
 rcases bft (r1 != 0) with hb2 | hb2
 ·replace hM:=ifT hM hb2
  refine Ct hb2 ?_
  refine Sq ?_
  refine Rg 3 ?_
  refine Om (.i r1) ?_
  refine Oa (.sl .nil 0 []) ?_
  refine Oa (.i r1) ?_
  refine Ni ?_
  refine Ws ?_
  refine zaB ?_
  refine zak ?_
  refine zcD (x:=.tup [.sl .nil 0 [],.i r1]) (f:=fun r=>.tup [.sl .no 2 (r.1.1.map Reading_.cells),.i r.1.2]) (fd:=fun r=>(Lo r.2)) (.inr rfl) ?_ (.tupL (.cons (.sl0 .nil 2 0) (.k .nil))) (Option.some.inj hM) hS 0 rfl
  exact (zbn (zad (x:=.sl .nil 0 []) rfl) (zad (x:=.i r1) rfl))
 ·replace hM:=ifF hM hb2
  refine Cf hb2 ?_
  refine zas ?_
  refine Ws ?_
  refine Sq ?_
  refine Rg 4 ?_
  refine Olg (.agg (Pulse.cells a0)) zbM ?_
  refine zcm (cs:=(Pulse.cells a0)) (by decide) zio zoK rfl ?_
  refine zcj hS (by decide) zio (by omega) fun H hS=>?_
  refine zaK (v:=.agg (Pulse.cells a0)) (ns:=(Pulse.cells a0)) (L':=([(g+3+3+2+2,.cells (Pulse.cells a0))]++Lo st)) 0 hS rfl rfl .no rfl rfl zpr nlb rfl fun H hS=>?_
  refine Ni ?_
  refine zaT (L':=([]++Lo st)) 0 7 hS rfl rfl rfl fun H hS=>?_
  refine Ws ?_
  refine Sq ?_
  refine Sq ?_
  refine Rg 4 ?_
  refine Om (f0) ?_
  refine Olg (.agg (Pulse.cells a0)) zhj ?_
  obtain ⟨r3,hr3,hM⟩:=zal hM
  replace hS:St (fun i=>i<g/\i∉ids (Lo st)) H0 ([]++Lo st) _ _:=hS
  refine zhN (bs:=[.agg (Pulse.cells a0)]) (.inl rfl) hS (by decide) rfl rfl ((hf hr3).le (.k .nil)) (hk _ _).ids (by omega) fun H hS=>?_
  refine zdc (e:=r3.1) (by decide) rfl ?_
  refine Ni ?_
  refine Ws ?_
  rcases bft (!r3.1) with hb4 | hb4
  ·replace hM:=ifT hM hb4
   refine Ct hb4 ?_
   refine Sq ?_
   refine Rg 2 ?_
   refine Oa (.sl .nil 0 []) ?_
   refine Oa (.i 1) ?_
   refine Ni ?_
   refine Ws ?_
   refine zaB ?_
   refine zak ?_
   refine zcD (x:=.tup [.sl .nil 0 [],.i 1]) (f:=fun r=>.tup [.sl .no 2 (r.1.1.map Reading_.cells),.i r.1.2]) (fd:=fun r=>(Lo r.2)) (.inr rfl) ?_ (.tupL (.cons (.sl0 .nil 2 0) (.k .nil))) (Option.some.inj hM) hS 0 rfl
   exact (zbn (zad (x:=.sl .nil 0 []) rfl) (zad (x:=.i 1) rfl))
  ·replace hM:=ifF hM hb4
   refine Cf hb4 ?_
   refine zas ?_
   refine Ws ?_
   refine Sq ?_
   refine Rg 1 ?_
   refine Oa (.sl .nil 0 []) ?_
   refine Ni ?_
   refine zq2 [(2,.ep (Pulse.cells a0)),(7,.ep (Pulse.cells a0)),(8,.sl (.id (g+3+3+2+4+4+1)) 2 (([]:List Reading_).map Reading_.cells))] 8 2 94 hS (by omega) (by decide) rfl (.k (.k (.k .nil))) fun H hS=>?_
   refine zaF (J:=(List Reading_)) (fun j=>[(8,.sl (.id (g+3+3+2+4+4+1)) 2 (j.map Reading_.cells))]) (fun j H' g'=>St (fun i=>i<g/\i∉ids (Lo st)) H0 ([(g+3+3+2+4+4+1,.row 94 j.length)]++Lo r3.2) H' g'/\zeS r3 j=some r) ?_ ?_
   ·rintro v5 H g1 ⟨hS,hM⟩
    change wpA _ _ _ _ (Fr.of [(8,.sl (.id (g+3+3+2+4+4+1)) 2 (v5.map Reading_.cells))]) _ _
    replace hS:St (fun i=>i<g/\i∉ids (Lo st)) H0 ([(g+3+3+2+4+4+1,.row 94 v5.length)]++Lo r3.2) H g1:=hS
    replace hM:zeS r3 v5=some r:=hM
    refine Sq ?_
    refine Sq ?_
    refine Rg 3 ?_
    refine Om (.sl (.id (g+3+3+2+4+4+1)) 2 (v5.map Reading_.cells)) ?_
    refine zco (n:=v5.length) (by decide) rfl (List.length_map _) zpq ?_
    refine Oi (.b ((v5.length:Int)==0)) ?_
    refine Ni ?_
    refine Ws ?_
    rcases bft ((v5.length:Int)==0) with hb6 | hb6
    ·replace hM:=ifT hM hb6
     refine Ct hb6 ?_
     refine Sq ?_
     refine Rg 2 ?_
     refine Oa (.sl .nil 0 []) ?_
     refine Oa (.i 3) ?_
     refine Ni ?_
     replace hS:=hS.keep (L':=([]++Lo r3.2)) [false] rfl
     refine Ws ?_
     refine zaB ?_
     refine zak ?_
     refine zcD (x:=.tup [.sl .nil 0 [],.i 3]) (f:=fun r=>.tup [.sl .no 2 (r.1.1.map Reading_.cells),.i r.1.2]) (fd:=fun r=>(Lo r.2)) (.inr rfl) ?_ (.tupL (.cons (.sl0 .nil 2 0) (.k .nil))) (Option.some.inj hM) hS 0 rfl
     exact (zbn (zad (x:=.sl .nil 0 []) rfl) (zad (x:=.i 3) rfl))
    ·replace hM:=ifF hM hb6
     refine Cf hb6 ?_
     refine zas ?_
     refine Ws ?_
     refine Sq ?_
     refine Rg 3 ?_
     refine Om (.sl (.id (g+3+3+2+4+4+1)) 2 (v5.map Reading_.cells)) ?_
     refine Oa (.sl (.id (g+3+3+2+4+4+1)) 2 (v5.map Reading_.cells)) ?_
     refine Oa (.i 0) ?_
     refine Ni ?_
     refine Ws ?_
     refine zaB ?_
     refine zcD (x:=.tup [.sl (.id (g+3+3+2+4+4+1)) 2 (v5.map Reading_.cells),.i 0]) (f:=fun r=>.tup [.sl .no 2 (r.1.1.map Reading_.cells),.i r.1.2]) (fd:=fun r=>(Lo r.2)) (.inr rfl) ?_ (.tupL (.cons (.sl _ _ _) (.k .nil))) (Option.some.inj hM) hS 1 rfl
     exact (zbn (zad (x:=.sl (.id (g+3+3+2+4+4+1)) 2 (v5.map Reading_.cells)) rfl) (zad (x:=.i 0) rfl))
   ·refine Sq ?_
    refine Rg 4 ?_
    refine Of ((Pulse.cells a0)) zju ?_
    refine Olp (.i a0.Sparks) zac zah ?_
    refine Oi (.i (w64 (a0.Sparks+1))) ?_
    refine Om (.i 0) ?_
    refine Ni ?_
    refine Ws ?_
    refine zap ?_
    refine zbI (V:=(List Reading_)×Int) (fun v=>[(7,.ep (Pulse.cells a0)),(8,.sl (.id (g+3+3+2+4+4+1)) 2 (v.1.map Reading_.cells)),(23,.i (w64 (a0.Sparks+1))),(24,.i v.2)]) (fun v m2 H' g'=>St (fun i=>i<g/\i∉ids (Lo st)) H0 ([(g+3+3+2+4+4+1,.row 94 v.1.length)]++Lo r3.2) H' g'/\zcV n a0 r3 m2 v.1 v.2=some r) (n:=n) (([]:List Reading_),0) (.k (.k (.k (.k .nil)))) ⟨(hS.keep [true] rfl).up (by omega),hM⟩ ?_
    rintro ⟨v7,v8⟩ m2 H g2 ⟨hS,hM⟩
    obtain _ | m2:=m2
    ·exact nomatch (show none=some _ from hM)
    change wpA _ _ _ _ (Fr.of [(7,.ep (Pulse.cells a0)),(8,.sl (.id (g+3+3+2+4+4+1)) 2 (v7.map Reading_.cells)),(23,.i (w64 (a0.Sparks+1))),(24,.i v8)]) _ _
    replace hS:St (fun i=>i<g/\i∉ids (Lo st)) H0 ([(g+3+3+2+4+4+1,.row 94 v7.length)]++Lo r3.2) H g2:=hS
    replace hM:ze0 n a0 r3 (zcV n a0 r3 m2) v7 v8=some r:=hM
    refine Sq ?_
    refine Rg 1 ?_
    refine Oi (.b (decide (v8<(w64 (a0.Sparks+1))))) ?_
    refine Ni ?_
    refine Ws ?_
    refine Sq ?_
    rcases bft (decide (v8<(w64 (a0.Sparks+1)))) with hb9 | hb9
    ·replace hM:=ifT hM hb9
     refine Ct hb9 ?_
     refine zas ?_
     refine Ws ?_
     refine Sq ?_
     refine zap ?_
     refine Sq ?_
     refine Rg 2 ?_
     refine Om (.i v8) ?_
     refine Oa (.i v8) ?_
     refine Ni ?_
     refine Ws ?_
     refine Rg 6 ?_
     refine Om (.sl (.id (g+3+3+2+4+4+1)) 2 (v7.map Reading_.cells)) ?_
     refine Olg (.agg (Pulse.cells a0)) zhj ?_
     refine Om (.i v8) ?_
     refine zxo (bs:=[.agg (Pulse.cells a0),.i v8]) (.inl rfl) hS (by decide) rfl rfl (zhW.le (.k (.k .nil))) (by omega) fun H hS=>?_
     obtain ⟨r10,hr10,hM⟩:=zal hM
     have hndr10:=hS.nd_at (ns:=[2,1,0]) (M:=[(g+3+3+2+4+4+1,.row 94 v7.length),(g2+1+2+6,.cells (Pulse.cells a0)),(g2+1+2+6+1,.cells [.i v8])]) (M':=[(g+3+3+2+4+4+1,.row 94 r10.length),(g2+1+2+6,.cells (Pulse.cells a0)),(g2+1+2+6+1,.cells [.i v8])]) (.cons rfl (.cons rfl (.cons rfl .nil))) (by decide)
     refine zkf (bs:=[.sl (.id (g+3+3+2+4+4+1)) 2 (v7.map Reading_.cells),.fn (.func 72) [] [.ptr (g2+1+2+6) 0,.ptr (g2+1+2+6+1) 0]]) (M:=[(g+3+3+2+4+4+1,.row 94 v7.length),(g2+1+2+6,.cells (Pulse.cells a0)),(g2+1+2+6+1,.cells [.i v8])]) (M':=[(g+3+3+2+4+4+1,.row 94 r10.length),(g2+1+2+6,.cells (Pulse.cells a0)),(g2+1+2+6+1,.cells [.i v8])]) (L':=([(g2+1+2+6+1,.cells [.i v8]),(g2+1+2+6,.cells (Pulse.cells a0)),(g+3+3+2+4+4+1,.row 94 r10.length)]++Lo r3.2)) [2,1,0] (.inl rfl) hS (by decide) rfl rfl ((zfz (w0:=g+3+3+2+4+4+1) (p1:=g2+1+2+6) (p2:=g2+1+2+6+1) hndr10 hr10).le (.k (.k .nil))) (.cons rfl (.cons rfl (.cons rfl .nil))) rfl (by omega) fun H hS=>?_
     refine Oa (.sl (.id (g+3+3+2+4+4+1)) 2 (r10.map Reading_.cells)) ?_
     refine Ni ?_
     refine zae ?_
     replace hS:=hS.keep (L':=([(g+3+3+2+4+4+1,.row 94 r10.length)]++Lo r3.2)) [false,false,true] rfl
     refine Ws ?_
     refine Rg 2 ?_
     refine Oi (.i (w64 (v8+1))) ?_
     refine Om (.i (w64 (v8+1))) ?_
     refine Ni ?_
     exact za4 (r10,w64 (v8+1)) (Nat.lt_succ_self _) (.k (.k (.k (.k .nil)))) ⟨(hS.keep [true] rfl).up (by omega),hM⟩
    ·replace hM:=ifF hM hb9
     refine Cf hb9 ?_
     refine zbw ?_
     refine zar ?_
     refine zao ?_
     refine zaw ?_
     exact zai v7 (.k .nil) ⟨(hS.keep [true] rfl).up (by omega),hM⟩
theorem zhX {S:Type} {Lo:S->BL} (hk:∀s s',zgl (Lo s) (Lo s')) (hnd:∀s,(ids (Lo s)).Nodup) (hin:∀s,InB In (Lo s)) {aF:(List Int)->S->Option (Bool×S)} {f0:AV} (hF:∀s H,Has H (Lo s)->In H f0) (h0:cellsOf f0=some [f0]) (hf:∀{x0:List Int} {s:S} {r:Bool×S},aF x0 s=some r->zjP Tryz.prog f0 [.sl .no 1 (x0.map cI)] (Lo s) (.b r.1) (Lo r.2)) {n:Nat} {a0:List (List Int)} {st:S} {r:Int×S} (hM:zem n aF a0 st=some r):zhv Tryz.prog 100 [.sl .no 1 (a0.map (cLf 1 cI)),f0] (Lo st) (.i r.1) (Lo r.2):=by
 have hnd0:∀s,(ids (Lo s)).Nodup:=fun s=>hnd s
 refine zbg mixed Tryz.func100 rfl (by decide) Tryz.ntmps100 (by simp) (hk _ _) (hnd st) ?pure ?cells fun H0 g hf_ hp=>?_
 case pure=>exact fun H _=>(show Go.AM.Pure _ from .v _).inH
 case cells=>exact hin _
 rw [zag]
 change wpA _ _ _ _ (Fr.of [(0,.sl .no 1 (a0.map (cLf 1 cI))),(1,f0)]) H0 g
 have hS:=St.startH (L:=([]++Lo st)) hf_ (hnd st) hp
 replace hS:St (fun i=>i<g/\i∉ids (Lo st)) H0 ([]++Lo st) H0 g:=hS
 refine Sq ?_
 refine Rg 1 ?_
 refine Oa (.i 0) ?_
 refine Ni ?_
 refine Ws ?_
 refine zaF (J:=S) (fun j=>[]) (fun j H' g'=>St (fun i=>i<g/\i∉ids (Lo st)) H0 ([]++Lo j) H' g'/\zcF j=some r) ?_ ?_
 ·rintro v1 H g1 ⟨hS,hM⟩
  change wpA _ _ _ _ (Fr.of []) _ _
  replace hS:St (fun i=>i<g/\i∉ids (Lo st)) H0 ([]++Lo v1) H g1:=hS
  replace hM:zcF v1=some r:=hM
  refine Sq ?_
  refine Rg 1 ?_
  refine Oa (.i (-1)) ?_
  refine Ni ?_
  refine Ws ?_
  refine zaB ?_
  refine zcD (x:=.i (-1)) (f:=fun r=>.i r.1) (fd:=fun r=>(Lo r.2)) (.inr rfl) ?_ (.refl _) (Option.some.inj hM) hS 0 rfl
  exact (zam (zad (x:=.i (-1)) rfl))
 ·refine Sq ?_
  refine Rg 3 ?_
  refine Om (.sl .no 1 (a0.map (cLf 1 cI))) ?_
  refine zco (n:=a0.length) (by decide) rfl (List.length_map _) zpw ?_
  refine Om (.i 0) ?_
  refine Ni ?_
  refine Ws ?_
  refine zap ?_
  refine zbI (V:=Int×S) (fun v=>[(0,.sl .no 1 (a0.map (cLf 1 cI))),(1,f0),(7,.i (a0.length:Int)),(8,.i v.1)]) (fun v m3 H' g'=>St (fun i=>i<g/\i∉ids (Lo st)) H0 ([]++Lo v.2) H' g'/\za8 a0 aF m3 v.1 v.2=some r) (n:=n) (0,st) (.k (.k (.k (.k .nil)))) ⟨(hS.keep [] rfl).up (by omega),hM⟩ ?_
  rintro ⟨v3,v4⟩ m3 H g3 ⟨hS,hM⟩
  obtain _ | m3:=m3
  ·exact nomatch (show none=some _ from hM)
  change wpA _ _ _ _ (Fr.of [(0,.sl .no 1 (a0.map (cLf 1 cI))),(1,f0),(7,.i (a0.length:Int)),(8,.i v3)]) _ _
  replace hS:St (fun i=>i<g/\i∉ids (Lo st)) H0 ([]++Lo v4) H g3:=hS
  replace hM:zcl a0 aF (za8 a0 aF m3) v3 v4=some r:=hM
  refine Sq ?_
  refine Rg 1 ?_
  refine Oi (.b (decide (v3<(a0.length:Int)))) ?_
  refine Ni ?_
  refine Ws ?_
  refine Sq ?_
  rcases bft (decide (v3<(a0.length:Int))) with hb5 | hb5
  ·replace hM:=ifT hM hb5
   refine Ct hb5 ?_
   refine zas ?_
   refine Ws ?_
   refine Sq ?_
   refine zap ?_
   refine Sq ?_
   refine Rg 2 ?_
   refine Om (.i v3) ?_
   refine Oa (.i v3) ?_
   refine Ni ?_
   refine Ws ?_
   refine Sq ?_
   refine Rg 6 ?_
   refine Om (f0) ?_
   refine Om (.sl .no 1 (a0.map (cLf 1 cI))) ?_
   refine Om (.i v3) ?_
   obtain ⟨x6,hx6,hM⟩:=zal hM
   refine zbj (xs:=a0) (f:=(cLf 1 cI)) (z:=v3) (u:=x6) (by decide) rfl rfl zmK hx6 ?_
   refine Olp (.sl .fr 1 (x6.map cI)) zbr zcc ?_
   obtain ⟨r7,hr7,hM⟩:=zal hM
   replace hS:St (fun i=>i<g/\i∉ids (Lo st)) H0 ([]++Lo v4) _ _:=hS
   refine zhN (bs:=[.sl .fr 1 (x6.map cI)]) (.inl rfl) hS (by decide) rfl rfl ((hf hr7).le (.cons (.sl _ _ _) .nil)) (hk _ _).ids (by omega) fun H hS=>?_
   refine Ni ?_
   refine Ws ?_
   rcases bft r7.1 with hb8 | hb8
   ·replace hM:=ifT hM hb8
    refine Ct hb8 ?_
    refine Sq ?_
    refine Rg 2 ?_
    refine Om (.i v3) ?_
    refine Oa (.i v3) ?_
    refine Ni ?_
    refine Ws ?_
    refine zaB ?_
    refine zaq ?_
    refine zak ?_
    refine zaL ?_
    refine zaq ?_
    refine zaI ?_
    refine zcD (x:=.i v3) (f:=fun r=>.i r.1) (fd:=fun r=>(Lo r.2)) (.inr rfl) ?_ (.refl _) (Option.some.inj hM) hS 0 rfl
    exact (zam (zad (x:=.i v3) rfl))
   ·replace hM:=ifF hM hb8
    refine Cf hb8 ?_
    refine zas ?_
    refine zae ?_
    refine Ws ?_
    refine Rg 2 ?_
    refine Oi (.i (w64 (v3+1))) ?_
    refine Om (.i (w64 (v3+1))) ?_
    refine Ni ?_
    exact za4 (w64 (v3+1),r7.2) (Nat.lt_succ_self _) (.k (.k (.k (.k .nil)))) ⟨(hS.keep [] rfl).up (by omega),hM⟩
  ·replace hM:=ifF hM hb5
   refine Cf hb5 ?_
   refine zbw ?_
   refine zar ?_
   refine zao ?_
   refine zaw ?_
   exact zai v4 .nil ⟨(hS.keep [] rfl).up (by omega),hM⟩
theorem zg9 {S:Type} {Lo:S->BL} (hk:∀s s',zgl (Lo s) (Lo s')) (hnd:∀s,(ids (Lo s)).Nodup) (hin:∀s,InB In (Lo s)) {aF:(List Int)->S->Option (Bool×S)} {f0:AV} (hF:∀s H,Has H (Lo s)->In H f0) (h0:cellsOf f0=some [f0]) (hf:∀{x0:List Int} {s:S} {r:Bool×S},aF x0 s=some r->zjP Tryz.prog f0 [.sl .no 1 (x0.map cI)] (Lo s) (.b r.1) (Lo r.2)) {n:Nat} {a0:List (List Int)} {st:S} {r:Bool×S} (hM:zcG n aF a0 st=some r):zhv Tryz.prog 78 [.sl .no 1 (a0.map (cLf 1 cI)),f0] (Lo st) (.b r.1) (Lo r.2):=by
 have hnd0:∀s,(ids (Lo s)).Nodup:=fun s=>hnd s
 refine zbg mixed Tryz.func78 rfl (by decide) Tryz.ntmps78 (by simp) (hk _ _) (hnd st) ?pure ?cells fun H0 g hf_ hp=>?_
 case pure=>exact fun H _=>(show Go.AM.Pure _ from .v _).inH
 case cells=>exact hin _
 rw [zag]
 change wpA _ _ _ _ (Fr.of [(0,.sl .no 1 (a0.map (cLf 1 cI))),(1,f0)]) H0 g
 have hS:=St.startH (L:=([]++Lo st)) hf_ (hnd st) hp
 replace hS:St (fun i=>i<g/\i∉ids (Lo st)) H0 ([]++Lo st) H0 g:=hS
 refine Sq ?_
 refine Rg 1 ?_
 refine Oa (.b false) ?_
 refine Ni ?_
 refine Ws ?_
 refine Sq ?_
 refine Rg 5 ?_
 refine Om (.sl .no 1 (a0.map (cLf 1 cI))) ?_
 refine Om (f0) ?_
 obtain ⟨r1,hr1,hM⟩:=zal hM
 replace hS:St (fun i=>i<g/\i∉ids (Lo st)) H0 ([]++Lo st) _ _:=hS
 refine zhe (bs:=[.sl .no 1 (a0.map (cLf 1 cI)),f0]) (.inl rfl) hS (by decide) rfl rfl ((zhX (Lo:=Lo)  hk hnd0 hin (aF:=aF) hF h0 hf hr1).le (.k (.k .nil))) (hk _ _).ids (by omega) fun H hS=>?_
 refine Oi (.b (decide (r1.1≥0))) ?_
 refine Oa (.b (decide (r1.1≥0))) ?_
 refine Ni ?_
 refine zej [(4,.b (decide (r1.1≥0)))] (.k .nil) ?_
 refine zaB ?_
 refine zcD (x:=.b (decide (r1.1≥0))) (f:=fun r=>.b r.1) (fd:=fun r=>(Lo r.2)) (.inr rfl) ?_ (.refl _) (Option.some.inj hM) hS 0 rfl
 exact (zam (zad (x:=.b (decide (r1.1≥0))) rfl))
theorem zjF {n:Nat} {a0:List Int} {a1:List Int} {r:Bool} (hM:slices_Equal_int n a0 a1=some r):zav Tryz.prog 80 [.sl .no 1 (a0.map cI),.sl .no 1 (a1.map cI)] (.b r):=by
 refine zan mixed Tryz.func80 rfl (by decide) Tryz.ntmps80 (by simp) ?pure fun H0 g hf=>?_
 case pure=>exact .v _
 rw [zag]
 change wpA _ _ _ _ (Fr.of [(0,.sl .no 1 (a0.map cI)),(1,.sl .no 1 (a1.map cI))]) H0 g
 have hS:=St.start hf
 refine Sq ?_
 refine Rg 1 ?_
 refine Oa (.b false) ?_
 refine Ni ?_
 refine Ws ?_
 refine Sq ?_
 refine Sq ?_
 refine Rg 5 ?_
 refine Om (.sl .no 1 (a0.map cI)) ?_
 refine zco (n:=a0.length) (by decide) rfl (List.length_map _) zbc ?_
 refine Om (.sl .no 1 (a1.map cI)) ?_
 refine zco (n:=a1.length) (by decide) rfl (List.length_map _) zbc ?_
 refine Oi (.b ((a0.length:Int) != (a1.length:Int))) ?_
 refine Ni ?_
 refine Ws ?_
 rcases bft ((a0.length:Int) != (a1.length:Int)) with hb1 | hb1
 ·replace hM:=ifT hM hb1
  refine Ct hb1 ?_
  refine Sq ?_
  refine Rg 1 ?_
  refine Oa (.b false) ?_
  refine Ni ?_
  refine Ws ?_
  refine zaB ?_
  refine zak ?_
  refine zaO (x:=.b false) (f:=fun r=>.b r) (.inr rfl) ?_ (.refl _) (Option.some.inj hM) hS
  exact (zam (zad (x:=.b false) rfl))
 ·replace hM:=ifF hM hb1
  refine Cf hb1 ?_
  refine zas ?_
  refine Ws ?_
  refine zaF (J:=Unit) (fun j=>[]) (fun j H' g'=>St (·<g) H0 [] H' g'/\zdP=some r) ?_ ?_
  ·rintro _ H g1 ⟨hS,hM⟩
   change wpA _ _ _ _ (Fr.of []) _ _
   replace hS:St (·<g) H0 [] H g1:=hS
   replace hM:zdP=some r:=hM
   refine Sq ?_
   refine Rg 1 ?_
   refine Oa (.b true) ?_
   refine Ni ?_
   refine Ws ?_
   refine zaB ?_
   refine zaO (x:=.b true) (f:=fun r=>.b r) (.inr rfl) ?_ (.refl _) (Option.some.inj hM) hS
   exact (zam (zad (x:=.b true) rfl))
  ·refine Sq ?_
   refine Rg 3 ?_
   refine Om (.sl .no 1 (a0.map cI)) ?_
   refine zco (n:=a0.length) (by decide) rfl (List.length_map _) zbc ?_
   refine Om (.i 0) ?_
   refine Ni ?_
   refine Ws ?_
   refine zap ?_
   refine zbI (V:=Int) (fun v=>[(0,.sl .no 1 (a0.map cI)),(1,.sl .no 1 (a1.map cI)),(12,.i (a0.length:Int)),(13,.i v)]) (fun v m2 H' g'=>St (·<g) H0 [] H' g'/\zbX a0 a1 m2 v=some r) (n:=n) 0 (.k (.k (.k (.k .nil)))) ⟨(hS.keep [] rfl).up (by omega),hM⟩ ?_
   rintro v2 m2 H g2 ⟨hS,hM⟩
   obtain _ | m2:=m2
   ·exact nomatch (show none=some _ from hM)
   change wpA _ _ _ _ (Fr.of [(0,.sl .no 1 (a0.map cI)),(1,.sl .no 1 (a1.map cI)),(12,.i (a0.length:Int)),(13,.i v2)]) _ _
   replace hS:St (·<g) H0 [] H g2:=hS
   replace hM:zdf a0 a1 (zbX a0 a1 m2) v2=some r:=hM
   refine Sq ?_
   refine Rg 1 ?_
   refine Oi (.b (decide (v2<(a0.length:Int)))) ?_
   refine Ni ?_
   refine Ws ?_
   refine Sq ?_
   rcases bft (decide (v2<(a0.length:Int))) with hb3 | hb3
   ·replace hM:=ifT hM hb3
    refine Ct hb3 ?_
    refine zas ?_
    refine Ws ?_
    refine Sq ?_
    refine zap ?_
    refine Sq ?_
    refine Rg 2 ?_
    refine Om (.i v2) ?_
    refine Oa (.i v2) ?_
    refine Ni ?_
    refine Ws ?_
    refine Sq ?_
    have hS0:=hS
    refine zdy (n:=9) rfl (by kernel_rfl) ?_
    refine Om (.sl .no 1 (a0.map cI)) ?_
    refine Om (.i v2) ?_
    obtain ⟨x4,hx4,hM⟩:=zal hM
    refine zbj (xs:=a0) (f:=cI) (z:=v2) (u:=x4) (by decide) rfl rfl zbi hx4 ?_
    refine Olp (.i x4) zac zah ?_
    refine Om (.sl .no 1 (a1.map cI)) ?_
    refine Om (.i v2) ?_
    obtain ⟨x5,hx5,hM⟩:=zal hM
    refine zbj (xs:=a1) (f:=cI) (z:=v2) (u:=x5) (by decide) rfl rfl zbi hx5 ?_
    refine Olp (.i x5) zac zah ?_
    refine Oi (.b (x4 != x5)) ?_
    refine Ni ?_
    refine Ws ?_
    rcases bft (x4 != x5) with hb6 | hb6
    ·replace hM:=ifT hM hb6
     refine Ct hb6 ?_
     refine Sq ?_
     refine Rg 1 ?_
     refine Oa (.b false) ?_
     refine Ni ?_
     refine Ws ?_
     refine zaB ?_
     refine zaq ?_
     refine zak ?_
     refine zaL ?_
     refine zaq ?_
     refine zaI ?_
     refine zaO (x:=.b false) (f:=fun r=>.b r) (.inr rfl) ?_ (.refl _) (Option.some.inj hM) hS
     exact (zam (zad (x:=.b false) rfl))
    ·replace hM:=ifF hM hb6
     refine Cf hb6 ?_
     refine zas ?_
     refine zae ?_
     refine Ws ?_
     refine Rg 2 ?_
     refine Oi (.i (w64 (v2+1))) ?_
     refine Om (.i (w64 (v2+1))) ?_
     refine Ni ?_
     exact za4 (w64 (v2+1)) (Nat.lt_succ_self _) (.k (.k (.k (.k .nil)))) ⟨(hS.keep [] rfl).up (by omega),hM⟩
   ·replace hM:=ifF hM hb3
    refine Cf hb3 ?_
    refine zbw ?_
    refine zar ?_
    refine zao ?_
    refine zaw ?_
    exact zai () .nil ⟨(hS.keep [] rfl).up (by omega),hM⟩
theorem zj3 {p1:Nat} (hnd:[p1].Nodup) {n:Nat} {a0:List Int} {a1:Reading_} {r:Bool} (hM:zdC n a0 a1=some r):zhv Tryz.prog 79 [.sl .no 1 (a0.map cI),.ptr p1 0] [(p1,.cells (Reading_.cells a1))] (.b r) [(p1,.cells (Reading_.cells a1))]:=by
 refine zbg mixed Tryz.func79 rfl (by decide) Tryz.ntmps79 (by simp) (zb6 zd8) hnd ?pure ?cells fun H0 g hf_ hp=>?_
 case pure=>exact fun H _=>(show Go.AM.Pure _ from .v _).inH
 case cells=>exact (zgI (zcp (zax (.inl (.inl (.v _))) (zax (.inl (.inl (.fr _ _ (zau (fun x=>(zaa (.v _) zaC)))))) zeO)) zgH) zd3)
 rw [zag]
 change wpA _ _ _ _ (Fr.of [(0,.sl .no 1 (a0.map cI)),(1,.ptr p1 0)]) H0 g
 have hS:=St.startH (L:=[(p1,.cells (Reading_.cells a1))]) hf_ hnd hp
 replace hS:St (fun i=>i<g/\i∉ids [(p1,.cells (Reading_.cells a1))]) H0 [(p1,.cells (Reading_.cells a1))] H0 g:=hS
 refine Sq ?_
 refine Rg 1 ?_
 refine Oa (.b false) ?_
 refine Ni ?_
 refine Ws ?_
 refine Sq ?_
 refine Rg 5 ?_
 refine Om (.sl .no 1 (a0.map cI)) ?_
 refine zaJ (by decide) znE rfl ?_
 refine zaW (v:=.sl .fr 1 (a1.list.map cI)) 0 hS (by decide) rfl rfl .no (po zbr zcc) ?_
 obtain ⟨r1,hr1,hM⟩:=zal hM
 refine zat (bs:=[.sl .no 1 (a0.map cI),.sl .fr 1 (a1.list.map cI)]) (by decide) rfl rfl ((zjF hr1).le (.k (.cons (.sl _ _ _) .nil))) ?_
 refine Oa (.b r1) ?_
 refine Ni ?_
 refine zej [(3,.b r1)] (.k .nil) ?_
 refine zaB ?_
 refine zcD (x:=.b r1) (f:=fun r=>.b r) (fd:=fun r=>[(p1,.cells (Reading_.cells a1))]) (.inr rfl) ?_ (.refl _) (Option.some.inj hM) hS 0 rfl
 exact (zam (zad (x:=.b r1) rfl))
theorem zlD {n:Nat} {a0:List Reading_} {r:(List (List Int))} (hM:zih n a0=some r):zav Tryz.prog 55 [.sl .no 2 (a0.map Reading_.cells)] (.sl .no 1 (r.map (cLf 1 cI))):=by
 refine zan mixed Tryz.func55 rfl (by decide) Tryz.ntmps55 (by simp) ?pure fun H0 g hf=>?_
 case pure=>exact .sl _ _ (zau (fun x=>(zaa (.fr _ _ (zau (fun x=>(zaa (.v _) zaC)))) zaC)))
 rw [zag]
 change wpA _ _ _ _ (Fr.of [(0,.sl .no 2 (a0.map Reading_.cells))]) H0 g
 have hS:=St.start hf
 refine Sq ?_
 refine Rg 1 ?_
 refine Oa (.sl .nil 0 []) ?_
 refine Ni ?_
 refine Ws ?_
 refine Sq ?_
 refine Rg 1 ?_
 refine Oa (.sl .nil 0 []) ?_
 refine Ni ?_
 refine zq2 [(0,.sl .no 2 (a0.map Reading_.cells)),(3,.sl (.id (g+1+1)) 1 (([]:List (List Int)).map (cLf 1 cI)))] 3 1 22 hS (by omega) (by decide) rfl (.k (.k .nil)) fun H hS=>?_
 refine zaF (J:=(List (List Int))) (fun j=>[(3,.sl (.id (g+1+1)) 1 (j.map (cLf 1 cI)))]) (fun j H' g'=>St (·<g) H0 [(g+1+1,.row 22 j.length)] H' g'/\zfj j=some r) ?_ ?_
 ·rintro v1 H g1 ⟨hS,hM⟩
  change wpA _ _ _ _ (Fr.of [(3,.sl (.id (g+1+1)) 1 (v1.map (cLf 1 cI)))]) _ _
  replace hS:St (·<g) H0 [(g+1+1,.row 22 v1.length)] H g1:=hS
  replace hM:zfj v1=some r:=hM
  refine Sq ?_
  refine Rg 2 ?_
  refine Om (.sl (.id (g+1+1)) 1 (v1.map (cLf 1 cI))) ?_
  refine Oa (.sl (.id (g+1+1)) 1 (v1.map (cLf 1 cI))) ?_
  refine Ni ?_
  refine Ws ?_
  refine zaB ?_
  refine zaO (x:=.sl (.id (g+1+1)) 1 (v1.map (cLf 1 cI))) (f:=fun r=>.sl .no 1 (r.map (cLf 1 cI))) (.inr rfl) ?_ (.sl _ _ _) (Option.some.inj hM) hS
  exact (zam (zad (x:=.sl (.id (g+1+1)) 1 (v1.map (cLf 1 cI))) rfl))
 ·refine Sq ?_
  refine Rg 3 ?_
  refine Om (.sl .no 2 (a0.map Reading_.cells)) ?_
  refine zco (n:=a0.length) (by decide) rfl (List.length_map _) zpq ?_
  refine Om (.i 0) ?_
  refine Ni ?_
  refine Ws ?_
  refine zap ?_
  refine zbI (V:=(List (List Int))×Int) (fun v=>[(3,.sl (.id (g+1+1)) 1 (v.1.map (cLf 1 cI))),(6,.sl .no 2 (a0.map Reading_.cells)),(7,.i (a0.length:Int)),(8,.i v.2)]) (fun v m2 H' g'=>St (·<g) H0 [(g+1+1,.row 22 v.1.length)] H' g'/\zb9 n a0 m2 v.1 v.2=some r) (n:=n) (([]:List (List Int)),0) (.k (.k (.k (.k .nil)))) ⟨(hS.keep [true] rfl).up (by omega),hM⟩ ?_
  rintro ⟨v2,v3⟩ m2 H g2 ⟨hS,hM⟩
  obtain _ | m2:=m2
  ·exact nomatch (show none=some _ from hM)
  change wpA _ _ _ _ (Fr.of [(3,.sl (.id (g+1+1)) 1 (v2.map (cLf 1 cI))),(6,.sl .no 2 (a0.map Reading_.cells)),(7,.i (a0.length:Int)),(8,.i v3)]) _ _
  replace hS:St (·<g) H0 [(g+1+1,.row 22 v2.length)] H g2:=hS
  replace hM:zeD n a0 (zb9 n a0 m2) v2 v3=some r:=hM
  refine Sq ?_
  refine Rg 1 ?_
  refine Oi (.b (decide (v3<(a0.length:Int)))) ?_
  refine Ni ?_
  refine Ws ?_
  refine Sq ?_
  rcases bft (decide (v3<(a0.length:Int))) with hb4 | hb4
  ·replace hM:=ifT hM hb4
   refine Ct hb4 ?_
   refine zas ?_
   refine Ws ?_
   refine zaF (J:=(List (List Int))) (fun j=>[(3,.sl (.id (g+1+1)) 1 (j.map (cLf 1 cI))),(6,.sl .no 2 (a0.map Reading_.cells)),(7,.i (a0.length:Int)),(8,.i v3)]) (fun j H' g'=>St (·<g) H0 [(g+1+1,.row 22 j.length)] H' g'/\zdD (zb9 n a0 m2) v3 j=some r) ?_ ?_
   ·rintro v5 H g3 ⟨hS,hM⟩
    change wpA _ _ _ _ (Fr.of [(3,.sl (.id (g+1+1)) 1 (v5.map (cLf 1 cI))),(6,.sl .no 2 (a0.map Reading_.cells)),(7,.i (a0.length:Int)),(8,.i v3)]) _ _
    replace hS:St (·<g) H0 [(g+1+1,.row 22 v5.length)] H g3:=hS
    replace hM:zdD (zb9 n a0 m2) v3 v5=some r:=hM
    refine Rg 2 ?_
    refine Oi (.i (w64 (v3+1))) ?_
    refine Om (.i (w64 (v3+1))) ?_
    refine Ni ?_
    exact za4 (v5,w64 (v3+1)) (Nat.lt_succ_self _) (.k (.k (.k (.k .nil)))) ⟨(hS.keep [true] rfl).up (by omega),hM⟩
   ·refine zap ?_
    refine Sq ?_
    refine Rg 4 ?_
    obtain ⟨x6,hx6,hM⟩:=zal hM
    refine zbj (xs:=a0) (f:=Reading_.cells) (z:=v3) (u:=x6) (by decide) rfl rfl zoJ hx6 ?_
    refine Olg (.agg (Reading_.cells x6)) zpu ?_
    refine zcj hS (by decide) zli (by omega) fun H hS=>?_
    refine zaK (v:=.agg (Reading_.cells x6)) (ns:=(Reading_.cells x6)) (L':=[(g2+1+2,.cells (Reading_.cells x6)),(g+1+1,.row 22 v2.length)]) 0 hS rfl rfl .no rfl rfl zpv nlb rfl fun H hS=>?_
    refine Ni ?_
    refine Ws ?_
    refine Sq ?_
    refine Rg 4 ?_
    refine Om (.sl (.id (g+1+1)) 1 (v2.map (cLf 1 cI))) ?_
    refine zce (first:=[]) (cap:=[.ptr (g2+1+2) 0]) (by decide) rfl rfl ?_
    obtain ⟨r7,hr7,hM⟩:=zal hM
    have hndr7:=hS.nd_at (ns:=[0]) (M:=[(g2+1+2,.cells (Reading_.cells x6))]) (M':=[(g2+1+2,.cells (Reading_.cells x6))]) (.cons rfl .nil) (by decide)
    have hncr7:=hS.nd_at (ns:=[0]) (M:=[(g2+1+2,.cells (Reading_.cells x6))]) (M':=[(g2+1+2,.cells (Reading_.cells x6))]) (.cons rfl .nil) (by decide)
    refine zkf (bs:=[.sl (.id (g+1+1)) 1 (v2.map (cLf 1 cI)),.fn (.func 79) [] [.ptr (g2+1+2) 0]]) (M:=[(g2+1+2,.cells (Reading_.cells x6))]) (M':=[(g2+1+2,.cells (Reading_.cells x6))]) (L':=[(g2+1+2,.cells (Reading_.cells x6)),(g+1+1,.row 22 v2.length)]) [0] (.inl rfl) hS (by decide) rfl rfl ((zg9 (Lo:=(fun (_:Unit)=>[(g2+1+2,.cells (Reading_.cells x6))]))  (fun _ _=>(zb6 zd8)) (fun _=>hndr7) (fun s=>(zgI (zcp (zax (.inl (.inl (.v _))) (zax (.inl (.inl (.fr _ _ (zau (fun x=>(zaa (.v _) zaC)))))) zeO)) zgH) zd3)) (aF:=(fun (x0:List Int) (_:Unit)=>(zdC n x0 x6).map fun y=>(y,()))) (fun s H hH=>(.fn _ _ _ zbV (zaM (zjm hH 0 rfl) zbV))) rfl (fun h=>zlb (zj3 (p1:=g2+1+2)  hncr7 (zfa h))) hr7).le (.cons (.sl _ _ _) (.k .nil))) (.cons rfl .nil) rfl (by omega) fun H hS=>?_
    refine zdc (e:=r7.1) (by decide) rfl ?_
    refine Ni ?_
    refine Ws ?_
    rcases bft (!r7.1) with hb8 | hb8
    ·replace hM:=ifT hM hb8
     refine Ct hb8 ?_
     refine Rg 6 ?_
     refine Om (.sl (.id (g+1+1)) 1 (v2.map (cLf 1 cI))) ?_
     refine zaJ (by decide) znE rfl ?_
     refine zaW (v:=.sl .fr 1 (x6.list.map cI)) 0 hS (by decide) rfl rfl .no (po zbr zcc) ?_
     refine zaX (es:=[[.sl .fr 1 (x6.list.map cI)]]) hS (by decide) zmK zrG rfl zrH rfl (by decide) (by omega) fun H hS=>?_
     obtain ⟨l9,hl9,hM⟩:=zal hM
     refine zdd (xs:=v2) (ys:=([x6.list]:List (List Int))) (zs:=l9) (f:=(cLf 1 cI)) (L':=[(g2+1+4+4+3,.row 22 1),(g2+1+2,.cells (Reading_.cells x6)),(g+1+1,.row 22 l9.length)]) 2 hS (by decide) rfl rfl rfl rfl .no zmK zrG zrH hl9 rfl fun H hS=>?_
     refine Oa (.sl (.id (g+1+1)) 1 (l9.map (cLf 1 cI))) ?_
     refine Ni ?_
     refine zae ?_
     exact zai l9 (.k (.k (.k (.k .nil)))) ⟨(hS.keep [false,false,true] rfl).up (by omega),hM⟩
    ·replace hM:=ifF hM hb8
     refine Cf hb8 ?_
     refine zas ?_
     refine zae ?_
     exact zai v2 (.k (.k (.k (.k .nil)))) ⟨(hS.keep [false,true] rfl).up (by omega),hM⟩
  ·replace hM:=ifF hM hb4
   refine Cf hb4 ?_
   refine zbw ?_
   refine zar ?_
   refine zao ?_
   refine zaw ?_
   exact zai v2 (.k .nil) ⟨(hS.keep [true] rfl).up (by omega),hM⟩
theorem zkg {n:Nat} {a0:List Reading_} {r:(List Int)×Int} (hM:zfF n a0=some r):zav Tryz.prog 27 [.sl .no 2 (a0.map Reading_.cells)] (.tup [.sl .fr 1 (r.1.map cI),.i r.2]):=by
 refine zan mixed Tryz.func27 rfl (by decide) Tryz.ntmps27 (by simp) ?pure fun H0 g hf=>?_
 case pure=>exact .tup _ (zaa (.fr _ _ (zau (fun x=>(zaa (.v _) zaC)))) (zaa (.v _) zaC))
 rw [zag]
 change wpA _ _ _ _ (Fr.of [(0,.sl .no 2 (a0.map Reading_.cells))]) H0 g
 have hS:=St.start hf
 refine Sq ?_
 refine Rg 2 ?_
 refine Oa (.sl .nil 0 []) ?_
 refine Oa (.i 0) ?_
 refine Ni ?_
 refine Ws ?_
 refine Sq ?_
 refine Rg 3 ?_
 refine Om (.sl .no 2 (a0.map Reading_.cells)) ?_
 obtain ⟨r1,hr1,hM⟩:=zal hM
 refine zat (bs:=[.sl .no 2 (a0.map Reading_.cells)]) (by decide) rfl rfl ((zlD hr1).le (.k .nil)) ?_
 refine Oa (.sl .no 1 (r1.map (cLf 1 cI))) ?_
 refine Ni ?_
 refine Ws ?_
 refine Sq ?_
 refine Sq ?_
 refine Rg 3 ?_
 refine Om (.sl .no 1 (r1.map (cLf 1 cI))) ?_
 refine zco (n:=r1.length) (by decide) rfl (List.length_map _) zpw ?_
 refine Oi (.b (decide ((r1.length:Int)>1))) ?_
 refine Ni ?_
 refine Ws ?_
 rcases bft (decide ((r1.length:Int)>1)) with hb2 | hb2
 ·replace hM:=ifT hM hb2
  refine Ct hb2 ?_
  refine Sq ?_
  refine Rg 2 ?_
  refine Oa (.sl .nil 0 []) ?_
  refine Oa (.i 2) ?_
  refine Ni ?_
  refine Ws ?_
  refine zaB ?_
  refine zak ?_
  refine zaO (x:=.tup [.sl .nil 0 [],.i 2]) (f:=fun r=>.tup [.sl .fr 1 (r.1.map cI),.i r.2]) (.inr rfl) ?_ (.tupL (.cons (.nf _ _) (.k .nil))) (Option.some.inj hM) hS
  exact (zbn (zad (x:=.sl .nil 0 []) rfl) (zad (x:=.i 2) rfl))
 ·replace hM:=ifF hM hb2
  refine Cf hb2 ?_
  refine zas ?_
  refine Ws ?_
  refine Sq ?_
  refine Rg 5 ?_
  refine Om (.sl .no 1 (r1.map (cLf 1 cI))) ?_
  obtain ⟨x3,hx3,hM⟩:=zal hM
  refine zbj (xs:=r1) (f:=(cLf 1 cI)) (z:=0) (u:=x3) (by decide) rfl rfl zmK hx3 ?_
  refine Olp (.sl .fr 1 (x3.map cI)) zbr zcc ?_
  refine Oa (.sl .fr 1 (x3.map cI)) ?_
  refine Oa (.i 0) ?_
  refine Ni ?_
  refine zej [(2,.sl .fr 1 (x3.map cI)),(3,.i 0)] (.k (.k .nil)) ?_
  refine zaB ?_
  refine zaO (x:=.tup [.sl .fr 1 (x3.map cI),.i 0]) (f:=fun r=>.tup [.sl .fr 1 (r.1.map cI),.i r.2]) (.inr rfl) ?_ (.refl _) (Option.some.inj hM) hS
  exact (zbn (zad (x:=.sl .fr 1 (x3.map cI)) rfl) (zad (x:=.i 0) rfl))
theorem zj4 {a0:Train_} {r:Bool} (hM:zgP a0=some r):zav Tryz.prog 42 [.agg (Train_.cells a0)] (.b r):=by
 refine zan mixed Tryz.func42 rfl (by decide) Tryz.ntmps42 (by simp) ?pure fun H0 g hf=>?_
 case pure=>exact .v _
 rw [zag]
 change wpA _ _ _ _ (Fr.of [(0,.agg (Train_.cells a0))]) H0 g
 have hS:=St.start hf
 refine Sq ?_
 refine Rg 2 ?_
 refine zbP (v:=.agg (Train_.cells a0)) (cs:=(Train_.cells a0)) hS (by decide) rfl rfl (by omega) fun H hS=>?_
 refine Oa (.b false) ?_
 refine Ni ?_
 replace hS:=hS.keep (L':=[]) [false] rfl
 refine Ws ?_
 refine Sq ?_
 refine Rg 1 ?_
 refine Oa (.b true) ?_
 refine Ni ?_
 refine zej [(2,.b true)] (.k .nil) ?_
 refine zaB ?_
 refine zaO (x:=.b true) (f:=fun r=>.b r) (.inr rfl) ?_ (.refl _) (Option.some.inj hM) hS
 exact (zam (zad (x:=.b true) rfl))
theorem zmN {n:Nat} {a0:Pulse} {r:(List Int)×Int} (hM:zlg n a0=some r):zav Tryz.prog 17 [.agg (Pulse.cells a0)] (.tup [.sl .no 1 (r.1.map cI),.i r.2]):=by
 refine zan mixed Tryz.func17 rfl (by decide) Tryz.ntmps17 (by simp) ?pure fun H0 g hf=>?_
 case pure=>exact .tup _ (zaa (.sl _ _ (zau (fun x=>(zaa (.v _) zaC)))) (zaa (.v _) zaC))
 rw [zag]
 change wpA _ _ _ _ (Fr.of [(0,.agg (Pulse.cells a0))]) H0 g
 have hS:=St.start hf
 refine Sq ?_
 refine Rg 3 ?_
 refine zbP (v:=.agg (Pulse.cells a0)) (cs:=(Pulse.cells a0)) hS (by decide) rfl rfl (by omega) fun H hS=>?_
 refine Oa (.sl .nil 0 []) ?_
 refine Oa (.i 0) ?_
 refine Ni ?_
 refine zaT (L':=[]) 0 1 hS rfl rfl rfl fun H hS=>?_
 refine Ws ?_
 refine Sq ?_
 refine Rg 7 ?_
 refine Olg (.agg (Pulse.cells a0)) zbM ?_
 obtain ⟨r1,hr1,hM⟩:=zal hM
 refine zat (bs:=[.agg (Pulse.cells a0),.fn (.func 42) [] []]) (by decide) rfl rfl (ze5 ((zjE (Lo:=(fun (_:Unit)=>[]))  (fun _ _=>zd8) (fun _=>List.nodup_nil) (fun _=>zd3) (aF:=(fun (x0:Train_) (_:Unit)=>(zgP x0).map fun y=>(y,()))) (fun _ H hH=>(.fn _ _ _ zbV zbV)) rfl (fun h=>ziG (zj4 (zfa h))) hr1).le (.k (.k .nil)))) ?_
 refine Om (.tup [.sl .no 2 (r1.1.1.map Reading_.cells),.i r1.1.2]) ?_
 refine Ox (.sl .no 2 (r1.1.1.map Reading_.cells)) ?_
 refine Ox (.i r1.1.2) ?_
 refine Oa (.sl .no 2 (r1.1.1.map Reading_.cells)) ?_
 refine Oa (.i r1.1.2) ?_
 refine Ni ?_
 refine Ws ?_
 refine Sq ?_
 refine Sq ?_
 refine Rg 2 ?_
 refine Om (.i r1.1.2) ?_
 refine Oi (.b (r1.1.2 != 0)) ?_
 refine Ni ?_
 refine Ws ?_
 rcases bft (r1.1.2 != 0) with hb2 | hb2
 ·replace hM:=ifT hM hb2
  refine Ct hb2 ?_
  refine Sq ?_
  refine Rg 3 ?_
  refine Om (.i r1.1.2) ?_
  refine Oa (.sl .nil 0 []) ?_
  refine Oa (.i r1.1.2) ?_
  refine Ni ?_
  refine Ws ?_
  refine zaB ?_
  refine zak ?_
  refine zaO (x:=.tup [.sl .nil 0 [],.i r1.1.2]) (f:=fun r=>.tup [.sl .no 1 (r.1.map cI),.i r.2]) (.inr rfl) ?_ (.tupL (.cons (.sl0 .nil 1 0) (.k .nil))) (Option.some.inj hM) hS
  exact (zbn (zad (x:=.sl .nil 0 []) rfl) (zad (x:=.i r1.1.2) rfl))
 ·replace hM:=ifF hM hb2
  refine Cf hb2 ?_
  refine zas ?_
  refine Ws ?_
  refine Sq ?_
  refine Rg 6 ?_
  refine Om (.sl .no 2 (r1.1.1.map Reading_.cells)) ?_
  obtain ⟨r3,hr3,hM⟩:=zal hM
  refine zat (bs:=[.sl .no 2 (r1.1.1.map Reading_.cells)]) (by decide) rfl rfl ((zkg hr3).le (.k .nil)) ?_
  refine Ox (.sl .fr 1 (r3.1.map cI)) ?_
  refine Ox (.i r3.2) ?_
  refine Oa (.sl .fr 1 (r3.1.map cI)) ?_
  refine Oa (.i r3.2) ?_
  refine Ni ?_
  refine zej [(2,.sl .fr 1 (r3.1.map cI)),(3,.i r3.2)] (.k (.k .nil)) ?_
  refine zaB ?_
  refine zaO (x:=.tup [.sl .fr 1 (r3.1.map cI),.i r3.2]) (f:=fun r=>.tup [.sl .no 1 (r.1.map cI),.i r.2]) (.inr rfl) ?_ (.tupL (.cons (.sl _ _ _) (.k .nil))) (Option.some.inj hM) hS
  exact (zbn (zad (x:=.sl .fr 1 (r3.1.map cI)) rfl) (zad (x:=.i r3.2) rfl))
theorem zkm {n:Nat} {a0:List Int} {a1:List Int} {r:Bool} (hM:ziT n a0 a1=some r):zav Tryz.prog 18 [.sl .no 1 (a0.map cI),.sl .no 1 (a1.map cI)] (.b r):=by
 refine zan mixed Tryz.func18 rfl (by decide) Tryz.ntmps18 (by simp) ?pure fun H0 g hf=>?_
 case pure=>exact .v _
 rw [zag]
 change wpA _ _ _ _ (Fr.of [(0,.sl .no 1 (a0.map cI)),(1,.sl .no 1 (a1.map cI))]) H0 g
 have hS:=St.start hf
 refine Sq ?_
 refine Rg 1 ?_
 refine Oa (.b false) ?_
 refine Ni ?_
 refine Ws ?_
 refine Sq ?_
 refine Sq ?_
 refine Rg 5 ?_
 refine Om (.sl .no 1 (a0.map cI)) ?_
 refine zco (n:=a0.length) (by decide) rfl (List.length_map _) zbc ?_
 refine Om (.sl .no 1 (a1.map cI)) ?_
 refine zco (n:=a1.length) (by decide) rfl (List.length_map _) zbc ?_
 refine Oi (.b ((a0.length:Int) != (a1.length:Int))) ?_
 refine Ni ?_
 refine Ws ?_
 rcases bft ((a0.length:Int) != (a1.length:Int)) with hb1 | hb1
 ·replace hM:=ifT hM hb1
  refine Ct hb1 ?_
  refine Sq ?_
  refine Rg 1 ?_
  refine Oa (.b false) ?_
  refine Ni ?_
  refine Ws ?_
  refine zaB ?_
  refine zak ?_
  refine zaO (x:=.b false) (f:=fun r=>.b r) (.inr rfl) ?_ (.refl _) (Option.some.inj hM) hS
  exact (zam (zad (x:=.b false) rfl))
 ·replace hM:=ifF hM hb1
  refine Cf hb1 ?_
  refine zas ?_
  refine Ws ?_
  refine zaF (J:=Unit) (fun j=>[]) (fun j H' g'=>St (·<g) H0 [] H' g'/\zfG=some r) ?_ ?_
  ·rintro _ H g1 ⟨hS,hM⟩
   change wpA _ _ _ _ (Fr.of []) _ _
   replace hS:St (·<g) H0 [] H g1:=hS
   replace hM:zfG=some r:=hM
   refine Sq ?_
   refine Rg 1 ?_
   refine Oa (.b true) ?_
   refine Ni ?_
   refine Ws ?_
   refine zaB ?_
   refine zaO (x:=.b true) (f:=fun r=>.b r) (.inr rfl) ?_ (.refl _) (Option.some.inj hM) hS
   exact (zam (zad (x:=.b true) rfl))
  ·refine Sq ?_
   refine Rg 1 ?_
   refine Oa (.i 0) ?_
   refine Ni ?_
   refine Ws ?_
   refine zap ?_
   refine zbI (V:=Int) (fun v=>[(0,.sl .no 1 (a0.map cI)),(1,.sl .no 1 (a1.map cI)),(5,.i v)]) (fun v m2 H' g'=>St (·<g) H0 [] H' g'/\zeE a0 a1 m2 v=some r) (n:=n) 0 (.k (.k (.k .nil))) ⟨(hS.keep [] rfl).up (by omega),hM⟩ ?_
   rintro v2 m2 H g2 ⟨hS,hM⟩
   obtain _ | m2:=m2
   ·exact nomatch (show none=some _ from hM)
   change wpA _ _ _ _ (Fr.of [(0,.sl .no 1 (a0.map cI)),(1,.sl .no 1 (a1.map cI)),(5,.i v2)]) _ _
   replace hS:St (·<g) H0 [] H g2:=hS
   replace hM:zgQ a0 a1 (zeE a0 a1 m2) v2=some r:=hM
   refine Sq ?_
   refine Sq ?_
   refine Rg 4 ?_
   refine Om (.i v2) ?_
   refine Om (.sl .no 1 (a0.map cI)) ?_
   refine zco (n:=a0.length) (by decide) rfl (List.length_map _) zbc ?_
   refine Oi (.b (decide (v2<(a0.length:Int)))) ?_
   refine Ni ?_
   refine Ws ?_
   rcases bft (decide (v2<(a0.length:Int))) with hb3 | hb3
   ·replace hM:=ifT hM hb3
    refine Ct hb3 ?_
    refine zas ?_
    refine Ws ?_
    refine Sq ?_
    refine zap ?_
    refine Sq ?_
    have hS0:=hS
    refine zdy (n:=9) rfl (by kernel_rfl) ?_
    refine Om (.sl .no 1 (a0.map cI)) ?_
    refine Om (.i v2) ?_
    obtain ⟨x4,hx4,hM⟩:=zal hM
    refine zbj (xs:=a0) (f:=cI) (z:=v2) (u:=x4) (by decide) rfl rfl zbi hx4 ?_
    refine Olp (.i x4) zac zah ?_
    refine Om (.sl .no 1 (a1.map cI)) ?_
    refine Om (.i v2) ?_
    obtain ⟨x5,hx5,hM⟩:=zal hM
    refine zbj (xs:=a1) (f:=cI) (z:=v2) (u:=x5) (by decide) rfl rfl zbi hx5 ?_
    refine Olp (.i x5) zac zah ?_
    refine Oi (.b (x4 != x5)) ?_
    refine Ni ?_
    refine Ws ?_
    rcases bft (x4 != x5) with hb6 | hb6
    ·replace hM:=ifT hM hb6
     refine Ct hb6 ?_
     refine Sq ?_
     refine Rg 1 ?_
     refine Oa (.b false) ?_
     refine Ni ?_
     refine Ws ?_
     refine zaB ?_
     refine zaq ?_
     refine zak ?_
     refine zaL ?_
     refine zaq ?_
     refine zaI ?_
     refine zaO (x:=.b false) (f:=fun r=>.b r) (.inr rfl) ?_ (.refl _) (Option.some.inj hM) hS
     exact (zam (zad (x:=.b false) rfl))
    ·replace hM:=ifF hM hb6
     refine Cf hb6 ?_
     refine zas ?_
     refine zae ?_
     refine Ws ?_
     refine Rg 3 ?_
     refine Om (.i v2) ?_
     refine Oi (.i (w64 (v2+1))) ?_
     refine Oa (.i (w64 (v2+1))) ?_
     refine Ni ?_
     exact za4 (w64 (v2+1)) (Nat.lt_succ_self _) (.k (.k (.k .nil))) ⟨(hS.keep [] rfl).up (by omega),hM⟩
   ·replace hM:=ifF hM hb3
    refine Cf hb3 ?_
    refine zbw ?_
    refine zar ?_
    refine zao ?_
    refine zaw ?_
    exact zai () .nil ⟨(hS.keep [] rfl).up (by omega),hM⟩
theorem ziu {n:Nat} {r:Bool} (hM:zhB n=some r):zav Tryz.prog 7 [] (.b r):=by
 refine zan mixed Tryz.func7 rfl (by decide) Tryz.ntmps7 (by simp) ?pure fun H0 g hf=>?_
 case pure=>exact .v _
 rw [zag]
 change wpA _ _ _ _ (Fr.of []) H0 g
 have hS:=St.start hf
 refine Sq ?_
 refine Rg 1 ?_
 refine Oa (.b false) ?_
 refine Ni ?_
 refine Ws ?_
 refine Sq ?_
 refine Rg 8 ?_
 refine zaX (es:=[[.i 0],[.i 10],[.i 40],[.i 50],[.i 60]]) hS (by decide) zbi zes rfl zet rfl (by decide) (by omega) fun H hS=>?_
 refine zcm (cs:=[.i 3,.i 4,.i 10,.i 2,.i 30,.i 100,.i 0,.sl (.id (g+1+0)) 1 (([0,10,40,50,60]:List Int).map cI)]) (by decide) zhD zuu rfl ?_
 obtain ⟨r1,hr1,hM⟩:=zal hM
 refine zat (bs:=[.agg [.i 3,.i 4,.i 10,.i 2,.i 30,.i 100,.i 0,.sl (.id (g+1+0)) 1 (([0,10,40,50,60]:List Int).map cI)]]) (by decide) rfl rfl ((zmN hr1).le (.cons (.aggL (.k (.k (.k (.k (.k (.k (.k (.cons (.sl _ _ _) .nil))))))))) .nil)) ?_
 refine Om (.tup [.sl .no 1 (r1.1.map cI),.i r1.2]) ?_
 refine Ox (.sl .no 1 (r1.1.map cI)) ?_
 refine Ox (.i r1.2) ?_
 refine Oa (.sl .no 1 (r1.1.map cI)) ?_
 refine Oa (.i r1.2) ?_
 refine Ni ?_
 replace hS:=hS.keep (L':=[]) [false] rfl
 refine Ws ?_
 refine zaF (J:=Bool) (fun j=>[(0,.b j)]) (fun j H' g'=>St (·<g) H0 [] H' g'/\zgp j=some r) ?_ ?_
 ·rintro v2 H g1 ⟨hS,hM⟩
  change wpA _ _ _ _ (Fr.of [(0,.b v2)]) _ _
  replace hS:St (·<g) H0 [] H g1:=hS
  replace hM:zgp v2=some r:=hM
  refine zaB ?_
  refine zaO (x:=.b v2) (f:=fun r=>.b r) (.inr rfl) ?_ (.refl _) (Option.some.inj hM) hS
  exact (zam (zad (x:=.b v2) rfl))
 ·refine Rg 8 ?_
  refine Om (.i r1.2) ?_
  refine Oi (.b (r1.2==0)) ?_
  refine Om (.b (r1.2==0)) ?_
  rcases bft (r1.2==0) with hb3 | hb3
  ·replace hM:=ifT hM hb3
   refine Oy (want:=true) hb3 ?_
   refine Om (.sl .no 1 (r1.1.map cI)) ?_
   refine Oy (want:=true) hb3 ?_
   refine zaX (es:=[[.i 6]]) hS (by decide) zbi zes rfl zet rfl (by decide) (by omega) fun H hS=>?_
   refine Oy (want:=true) hb3 ?_
   obtain ⟨r4,hr4,hM⟩:=zal hM
   refine zat (bs:=[.sl .no 1 (r1.1.map cI),.sl (.id (g+1+8+4)) 1 (([6]:List Int).map cI)]) (by decide) rfl rfl ((zkm hr4).le (.k (.cons (.sl _ _ _) .nil))) ?_
   refine Pt (.b r4) hb3 ?_
   refine Oa (.b r4) ?_
   refine Ni ?_
   exact zai r4 (.k .nil) ⟨(hS.keep [false] rfl).up (by omega),hM⟩
  ·replace hM:=ifF hM hb3
   refine On (want:=true) hb3 ?_
   refine On (want:=true) hb3 ?_
   refine On (want:=true) hb3 ?_
   refine Pf (.b false) hb3 ?_
   refine Oa (.b false) ?_
   refine Ni ?_
   exact zai false (.k .nil) ⟨(hS.keep [] rfl).up (by omega),hM⟩
theorem znG {a0:Pulse} {r:Pulse} (hM:ziH a0=some r):zav Tryz.prog 19 [.agg (Pulse.cells a0)] (.agg [.i r.Letters,.i r.Numbers,.i r.Pitch,.i r.Slack,.i r.Gap,.i r.Pause,.i r.Sparks,.sl .no 1 (r.Times.map cI)]):=by
 refine zan mixed Tryz.func19 rfl (by decide) Tryz.ntmps19 (by simp) ?pure fun H0 g hf=>?_
 case pure=>exact .agg _ (zaa (.v _) (zaa (.v _) (zaa (.v _) (zaa (.v _) (zaa (.v _) (zaa (.v _) (zaa (.v _) (zaa (.sl _ _ (zau (fun x=>(zaa (.v _) zaC)))) zaC))))))))
 rw [zag]
 change wpA _ _ _ _ (Fr.of [(0,.agg (Pulse.cells a0))]) H0 g
 have hS:=St.start hf
 refine Sq ?_
 refine Rg 2 ?_
 refine zbP (v:=.agg (Pulse.cells a0)) (cs:=(Pulse.cells a0)) hS (by decide) rfl rfl (by omega) fun H hS=>?_
 refine zcj hS (by decide) zhD (by omega) fun H hS=>?_
 refine Ni ?_
 refine zaT (L':=[(g+1,.cells [.i 0,.i 0,.i 0,.i 0,.i 0,.i 0,.i 0,.sl .nil 0 []])]) 1 1 hS rfl rfl rfl fun H hS=>?_
 refine Ws ?_
 refine Sq ?_
 refine Rg 3 ?_
 refine Olg (.agg (Pulse.cells a0)) zbM ?_
 refine zcj hS (by decide) zhD (by omega) fun H hS=>?_
 refine zaK (v:=.agg (Pulse.cells a0)) (ns:=(Pulse.cells a0)) (L':=[(g+2+1,.cells (Pulse.cells a0)),(g+1,.cells [.i 0,.i 0,.i 0,.i 0,.i 0,.i 0,.i 0,.sl .nil 0 []])]) 0 hS rfl rfl .no rfl rfl zhi nlb rfl fun H hS=>?_
 refine Ni ?_
 refine Ws ?_
 refine Sq ?_
 refine Rg 6 ?_
 refine zaX (es:=[]) hS (by decide) zbi zes rfl zet rfl (by decide) (by omega) fun H hS=>?_
 refine Of ((Pulse.cells a0)) zdW ?_
 refine Olp (.sl .no 1 (a0.Times.map cI)) zbr zcc ?_
 obtain ⟨l1,hl1,hM⟩:=zal hM
 refine zdd (xs:=([]:List Int)) (ys:=a0.Times) (zs:=l1) (f:=cI) (L':=[(g+2+3+0,.row 3 l1.length),(g+2+1,.cells (Pulse.cells a0)),(g+1,.cells [.i 0,.i 0,.i 0,.i 0,.i 0,.i 0,.i 0,.sl .nil 0 []])]) 0 hS (by decide) rfl rfl rfl rfl .no zbi zes zet hl1 rfl fun H hS=>?_
 refine zaJ (by decide) zdW rfl ?_
 refine zaK (v:=.sl (.id (g+2+3+0)) 1 (l1.map cI)) (ns:=[.sl (.id (g+2+3+0)) 1 (l1.map cI)]) (L':=[(g+2+3+0,.row 3 l1.length),(g+2+1,.cells [.i a0.Letters,.i a0.Numbers,.i a0.Pitch,.i a0.Slack,.i a0.Gap,.i a0.Pause,.i a0.Sparks,.sl (.id (g+2+3+0)) 1 (l1.map cI)]),(g+1,.cells [.i 0,.i 0,.i 0,.i 0,.i 0,.i 0,.i 0,.sl .nil 0 []])]) 1 hS rfl rfl .no rfl rfl zfX nlb rfl fun H hS=>?_
 refine Ni ?_
 refine Ws ?_
 refine Sq ?_
 refine Rg 2 ?_
 refine zaW (v:=.agg [.i a0.Letters,.i a0.Numbers,.i a0.Pitch,.i a0.Slack,.i a0.Gap,.i a0.Pause,.i a0.Sparks,.sl (.id (g+2+3+0)) 1 (l1.map cI)]) 1 hS (by decide) rfl rfl .no (pg zbM) ?_
 refine zaK (v:=.agg [.i a0.Letters,.i a0.Numbers,.i a0.Pitch,.i a0.Slack,.i a0.Gap,.i a0.Pause,.i a0.Sparks,.sl (.id (g+2+3+0)) 1 (l1.map cI)]) (ns:=[.i a0.Letters,.i a0.Numbers,.i a0.Pitch,.i a0.Slack,.i a0.Gap,.i a0.Pause,.i a0.Sparks,.sl (.id (g+2+3+0)) 1 (l1.map cI)]) (L':=[(g+2+3+0,.row 3 l1.length),(g+2+1,.cells [.i a0.Letters,.i a0.Numbers,.i a0.Pitch,.i a0.Slack,.i a0.Gap,.i a0.Pause,.i a0.Sparks,.sl (.id (g+2+3+0)) 1 (l1.map cI)]),(g+1,.cells [.i a0.Letters,.i a0.Numbers,.i a0.Pitch,.i a0.Slack,.i a0.Gap,.i a0.Pause,.i a0.Sparks,.sl (.id (g+2+3+0)) 1 (l1.map cI)])]) 2 hS rfl rfl .no rfl rfl zhi nlb rfl fun H hS=>?_
 refine Ni ?_
 replace hS:=hS.keep (L':=[(g+2+3+0,.row 3 l1.length),(g+1,.cells [.i a0.Letters,.i a0.Numbers,.i a0.Pitch,.i a0.Slack,.i a0.Gap,.i a0.Pause,.i a0.Sparks,.sl (.id (g+2+3+0)) 1 (l1.map cI)])]) [true,false,true] rfl
 refine zej [(2,.ptr (g+1) 0)] (.k .nil) ?_
 refine zaB ?_
 refine zaO (x:=.agg [.i a0.Letters,.i a0.Numbers,.i a0.Pitch,.i a0.Slack,.i a0.Gap,.i a0.Pause,.i a0.Sparks,.sl (.id (g+2+3+0)) 1 (l1.map cI)]) (f:=fun r=>.agg [.i r.Letters,.i r.Numbers,.i r.Pitch,.i r.Slack,.i r.Gap,.i r.Pause,.i r.Sparks,.sl .no 1 (r.Times.map cI)]) (.inr rfl) ?_ (.aggL (.k (.k (.k (.k (.k (.k (.k (.cons (.sl _ _ _) .nil))))))))) (Option.some.inj hM) hS
 exact (zam (zcC (x:=.agg [.i a0.Letters,.i a0.Numbers,.i a0.Pitch,.i a0.Slack,.i a0.Gap,.i a0.Pause,.i a0.Sparks,.sl (.id (g+2+3+0)) 1 (l1.map cI)]) 1 hS rfl rfl (pg zbM)))
theorem zcW {a0:Int} {a1:Int} {a2:Int} {r:Bool} (hM:zcw a0 a1 a2=some r):zav Tryz.prog 43 [.i a0,.i a1,.i a2] (.b r):=by
 refine zan mixed Tryz.func43 rfl (by decide) Tryz.ntmps43 (by simp) ?pure fun H0 g hf=>?_
 case pure=>exact .v _
 rw [zag]
 change wpA _ _ _ _ (Fr.of [(0,.i a0),(1,.i a1),(2,.i a2)]) H0 g
 have hS:=St.start hf
 refine Sq ?_
 refine Rg 1 ?_
 refine Oa (.b false) ?_
 refine Ni ?_
 refine Ws ?_
 refine Sq ?_
 refine Rg 5 ?_
 refine Om (.i a0) ?_
 refine Om (.i a1) ?_
 refine Om (.i a2) ?_
 obtain ⟨r1,hr1,hM⟩:=zal hM
 refine zat (bs:=[.i a0,.i a1,.i a2]) (by decide) rfl rfl ((zhr hr1).le (.k (.k (.k .nil)))) ?_
 refine Oa (.b r1) ?_
 refine Ni ?_
 refine zej [(6,.b r1)] (.k .nil) ?_
 refine zaB ?_
 refine zaO (x:=.b r1) (f:=fun r=>.b r) (.inr rfl) ?_ (.refl _) (Option.some.inj hM) hS
 exact (zam (zad (x:=.b r1) rfl))
theorem zlE {n:Nat} {a0:List Int} {a1:Int} {a2:Int} {r:Bool} (hM:zii n a0 a1 a2=some r):zav Tryz.prog 44 [.sl .no 1 (a0.map cI),.i a1,.i a2] (.b r):=by
 refine zan mixed Tryz.func44 rfl (by decide) Tryz.ntmps44 (by simp) ?pure fun H0 g hf=>?_
 case pure=>exact .v _
 rw [zag]
 change wpA _ _ _ _ (Fr.of [(0,.sl .no 1 (a0.map cI)),(1,.i a1),(2,.i a2)]) H0 g
 have hS:=St.start hf
 refine Sq ?_
 refine Rg 1 ?_
 refine Oa (.b false) ?_
 refine Ni ?_
 refine Ws ?_
 refine zaF (J:=Unit) (fun j=>[]) (fun j H' g'=>St (·<g) H0 [] H' g'/\zfk=some r) ?_ ?_
 ·rintro _ H g1 ⟨hS,hM⟩
  change wpA _ _ _ _ (Fr.of []) _ _
  replace hS:St (·<g) H0 [] H g1:=hS
  replace hM:zfk=some r:=hM
  refine Sq ?_
  refine Rg 1 ?_
  refine Oa (.b true) ?_
  refine Ni ?_
  refine Ws ?_
  refine zaB ?_
  refine zaO (x:=.b true) (f:=fun r=>.b r) (.inr rfl) ?_ (.refl _) (Option.some.inj hM) hS
  exact (zam (zad (x:=.b true) rfl))
 ·refine Sq ?_
  refine Rg 1 ?_
  refine Oa (.i 0) ?_
  refine Ni ?_
  refine Ws ?_
  refine zap ?_
  refine zbI (V:=Int) (fun v=>[(0,.sl .no 1 (a0.map cI)),(1,.i a1),(2,.i a2),(7,.i v)]) (fun v m2 H' g'=>St (·<g) H0 [] H' g'/\zca a0 a1 a2 m2 v=some r) (n:=n) 0 (.k (.k (.k (.k .nil)))) ⟨(hS.keep [] rfl).up (by omega),hM⟩ ?_
  rintro v1 m2 H g2 ⟨hS,hM⟩
  obtain _ | m2:=m2
  ·exact nomatch (show none=some _ from hM)
  change wpA _ _ _ _ (Fr.of [(0,.sl .no 1 (a0.map cI)),(1,.i a1),(2,.i a2),(7,.i v1)]) _ _
  replace hS:St (·<g) H0 [] H g2:=hS
  replace hM:zeF a0 a1 a2 (zca a0 a1 a2 m2) v1=some r:=hM
  refine Sq ?_
  refine Sq ?_
  refine Rg 4 ?_
  refine Om (.i v1) ?_
  refine Om (.sl .no 1 (a0.map cI)) ?_
  refine zco (n:=a0.length) (by decide) rfl (List.length_map _) zbc ?_
  refine Oi (.b (decide (v1<(a0.length:Int)))) ?_
  refine Ni ?_
  refine Ws ?_
  rcases bft (decide (v1<(a0.length:Int))) with hb2 | hb2
  ·replace hM:=ifT hM hb2
   refine Ct hb2 ?_
   refine zas ?_
   refine Ws ?_
   refine Sq ?_
   refine zap ?_
   refine zaF (J:=Bool) (fun j=>[(0,.sl .no 1 (a0.map cI)),(1,.i a1),(2,.i a2),(7,.i v1),(37,.b j)]) (fun j H' g'=>St (·<g) H0 [] H' g'/\zcx (zca a0 a1 a2 m2) v1 j=some r) ?_ ?_
   ·rintro v3 H g3 ⟨hS,hM⟩
    change wpA _ _ _ _ (Fr.of [(0,.sl .no 1 (a0.map cI)),(1,.i a1),(2,.i a2),(7,.i v1),(37,.b v3)]) _ _
    replace hS:St (·<g) H0 [] H g3:=hS
    replace hM:zcx (zca a0 a1 a2 m2) v1 v3=some r:=hM
    rcases bft v3 with hb4 | hb4
    ·replace hM:=ifT hM hb4
     refine Ct hb4 ?_
     refine Sq ?_
     refine Rg 1 ?_
     refine Oa (.b false) ?_
     refine Ni ?_
     refine Ws ?_
     refine zaB ?_
     refine zaq ?_
     refine zak ?_
     refine zaL ?_
     refine zaq ?_
     refine zaI ?_
     refine zaO (x:=.b false) (f:=fun r=>.b r) (.inr rfl) ?_ (.refl _) (Option.some.inj hM) hS
     exact (zam (zad (x:=.b false) rfl))
    ·replace hM:=ifF hM hb4
     refine Cf hb4 ?_
     refine zas ?_
     refine zae ?_
     refine Ws ?_
     refine Rg 3 ?_
     refine Om (.i v1) ?_
     refine Oi (.i (w64 (v1+1))) ?_
     refine Oa (.i (w64 (v1+1))) ?_
     refine Ni ?_
     exact za4 (w64 (v1+1)) (Nat.lt_succ_self _) (.k (.k (.k (.k .nil)))) ⟨(hS.keep [] rfl).up (by omega),hM⟩
   ·have hS0:=hS
    refine zdy (n:=24) rfl (by kernel_rfl) ?_
    refine Om (.sl .no 1 (a0.map cI)) ?_
    refine Om (.i v1) ?_
    obtain ⟨x5,hx5,hM⟩:=zal hM
    refine zbj (xs:=a0) (f:=cI) (z:=v1) (u:=x5) (by decide) rfl rfl zbi hx5 ?_
    refine Olp (.i x5) zac zah ?_
    refine Om (.i a1) ?_
    refine Om (.i a2) ?_
    obtain ⟨r6,hr6,hM⟩:=zal hM
    refine zat (bs:=[.i x5,.i a1,.i a2]) (by decide) rfl rfl ((zhr hr6).le (.k (.k (.k .nil)))) ?_
    refine zdc (e:=r6) (by decide) rfl ?_
    refine Om (.b (!r6)) ?_
    rcases bft (!r6) with hb7 | hb7
    ·replace hM:=ifT hM hb7
     refine On (want:=false) hb7 ?_
     refine On (want:=false) hb7 ?_
     refine On (want:=false) hb7 ?_
     refine zaj (j:=11) (by decide) rfl ?_
     refine zaj (j:=11) (by decide) rfl ?_
     refine zaj (j:=11) (by decide) rfl ?_
     refine zaj (j:=11) (by decide) rfl ?_
     refine zaj (j:=11) (by decide) rfl ?_
     refine zaj (j:=11) (by decide) rfl ?_
     refine zaj (j:=11) (by decide) rfl ?_
     refine zaj (j:=11) (by decide) rfl ?_
     refine zaj (j:=11) (by decide) rfl ?_
     refine zaj (j:=11) (by decide) rfl ?_
     refine On (want:=false) hb7 ?_
     refine Pt (.b true) hb7 ?_
     refine Ni ?_
     exact zai true (.k (.k (.k (.k (.k .nil))))) ⟨(hS.keep [] rfl).up (by omega),hM⟩
    ·replace hM:=ifF hM hb7
     refine Oy (want:=false) hb7 ?_
     refine Om (.i v1) ?_
     refine Oy (want:=false) hb7 ?_
     refine Oi (.b (decide (v1>0))) ?_
     refine Oy (want:=false) hb7 ?_
     refine Om (.b (decide (v1>0))) ?_
     rcases bft (decide (v1>0)) with hb8 | hb8
     ·replace hM:=ifT hM hb8
      refine Oy (want:=true) hb8 ?_
      refine Om (.sl .no 1 (a0.map cI)) ?_
      refine Oy (want:=true) hb8 ?_
      refine Om (.i v1) ?_
      refine Oy (want:=true) hb8 ?_
      obtain ⟨x9,hx9,hM⟩:=zal hM
      refine zbj (xs:=a0) (f:=cI) (z:=v1) (u:=x9) (by decide) rfl rfl zbi hx9 ?_
      refine Oy (want:=true) hb8 ?_
      refine Olp (.i x9) zac zah ?_
      refine Oy (want:=true) hb8 ?_
      refine Om (.sl .no 1 (a0.map cI)) ?_
      refine Oy (want:=true) hb8 ?_
      refine Om (.i v1) ?_
      refine Oy (want:=true) hb8 ?_
      refine Oi (.i (w64 (v1-1))) ?_
      refine Oy (want:=true) hb8 ?_
      obtain ⟨x10,hx10,hM⟩:=zal hM
      refine zbj (xs:=a0) (f:=cI) (z:=(w64 (v1-1))) (u:=x10) (by decide) rfl rfl zbi hx10 ?_
      refine Oy (want:=true) hb8 ?_
      refine Olp (.i x10) zac zah ?_
      refine Oy (want:=true) hb8 ?_
      refine Oi (.b (decide (x9<=x10))) ?_
      refine Oy (want:=false) hb7 ?_
      refine Pt (.b (decide (x9<=x10))) hb8 ?_
      refine Pf (.b (decide (x9<=x10))) hb7 ?_
      refine Ni ?_
      exact zai (decide (x9<=x10)) (.k (.k (.k (.k (.k .nil))))) ⟨(hS.keep [] rfl).up (by omega),hM⟩
     ·replace hM:=ifF hM hb8
      refine On (want:=true) hb8 ?_
      refine On (want:=true) hb8 ?_
      refine On (want:=true) hb8 ?_
      refine On (want:=true) hb8 ?_
      refine On (want:=true) hb8 ?_
      refine On (want:=true) hb8 ?_
      refine On (want:=true) hb8 ?_
      refine On (want:=true) hb8 ?_
      refine On (want:=true) hb8 ?_
      refine On (want:=true) hb8 ?_
      refine Oy (want:=false) hb7 ?_
      refine Pf (.b false) hb8 ?_
      refine Pf (.b false) hb7 ?_
      refine Ni ?_
      exact zai false (.k (.k (.k (.k (.k .nil))))) ⟨(hS.keep [] rfl).up (by omega),hM⟩
  ·replace hM:=ifF hM hb2
   refine Cf hb2 ?_
   refine zbw ?_
   refine zar ?_
   refine zao ?_
   refine zaw ?_
   exact zai () .nil ⟨(hS.keep [] rfl).up (by omega),hM⟩
theorem zjG {n:Nat} {a0:Pulse} {r:Int} (hM:zgR n a0=some r):zav Tryz.prog 20 [.agg (Pulse.cells a0)] (.i r):=by
 refine zan mixed Tryz.func20 rfl (by decide) Tryz.ntmps20 (by simp) ?pure fun H0 g hf=>?_
 case pure=>exact .v _
 rw [zag]
 change wpA _ _ _ _ (Fr.of [(0,.agg (Pulse.cells a0))]) H0 g
 have hS:=St.start hf
 refine Sq ?_
 refine Rg 2 ?_
 refine zbP (v:=.agg (Pulse.cells a0)) (cs:=(Pulse.cells a0)) hS (by decide) rfl rfl (by omega) fun H hS=>?_
 refine Oa (.i 0) ?_
 refine Ni ?_
 refine zaT (L':=[]) 0 1 hS rfl rfl rfl fun H hS=>?_
 refine Ws ?_
 refine Sq ?_
 refine zaF (J:=Bool) (fun j=>[(66,.b j)]) (fun j H' g'=>St (·<g) H0 [] H' g'/\zbz j=some r) ?_ ?_
 ·rintro v1 H g1 ⟨hS,hM⟩
  change wpA _ _ _ _ (Fr.of [(66,.b v1)]) _ _
  replace hS:St (·<g) H0 [] H g1:=hS
  replace hM:zbz v1=some r:=hM
  rcases bft v1 with hb2 | hb2
  ·replace hM:=ifT hM hb2
   refine Ct hb2 ?_
   refine Sq ?_
   refine Rg 1 ?_
   refine Oa (.i 130) ?_
   refine Ni ?_
   refine Ws ?_
   refine zaB ?_
   refine zak ?_
   refine zaO (x:=.i 130) (f:=fun r=>.i r) (.inr rfl) ?_ (.refl _) (Option.some.inj hM) hS
   exact (zam (zad (x:=.i 130) rfl))
  ·replace hM:=ifF hM hb2
   refine Cf hb2 ?_
   refine zas ?_
   refine Ws ?_
   refine Sq ?_
   refine Rg 1 ?_
   refine Oa (.i 0) ?_
   refine Ni ?_
   refine Ws ?_
   refine zaB ?_
   refine zaO (x:=.i 0) (f:=fun r=>.i r) (.inr rfl) ?_ (.refl _) (Option.some.inj hM) hS
   exact (zam (zad (x:=.i 0) rfl))
 ·refine Rg 64 ?_
  refine Of ((Pulse.cells a0)) zgX ?_
  refine Olp (.i a0.Letters) zac zah ?_
  obtain ⟨r3,hr3,hM⟩:=zal hM
  refine zat (bs:=[.i a0.Letters,.i 1,.i 5]) (by decide) rfl rfl ((zcW hr3).le (.k (.k (.k .nil)))) ?_
  refine zdc (e:=r3) (by decide) rfl ?_
  refine Om (.b (!r3)) ?_
  rcases bft (!r3) with hb4 | hb4
  ·replace hM:=ifT hM hb4
   refine On (want:=false) hb4 ?_
   refine On (want:=false) hb4 ?_
   refine On (want:=false) hb4 ?_
   refine On (want:=false) hb4 ?_
   refine Pt (.b true) hb4 ?_
   refine Om (.b true) ?_
   refine Og ?_
   refine Og ?_
   refine Og ?_
   refine Og ?_
   refine zaH (v:=.b true) (e:=true) (by decide) rfl rfl rfl ?_
   refine Om (.b true) ?_
   refine Og ?_
   refine Og ?_
   refine Og ?_
   refine Og ?_
   refine Og ?_
   refine Og ?_
   refine Og ?_
   refine zaH (v:=.b true) (e:=true) (by decide) rfl rfl rfl ?_
   refine Om (.b true) ?_
   refine Og ?_
   refine Og ?_
   refine Og ?_
   refine Og ?_
   refine zaH (v:=.b true) (e:=true) (by decide) rfl rfl rfl ?_
   refine Om (.b true) ?_
   refine Og ?_
   refine Og ?_
   refine Og ?_
   refine Og ?_
   refine Og ?_
   refine Og ?_
   refine Og ?_
   refine Og ?_
   refine Og ?_
   refine Og ?_
   refine Og ?_
   refine Og ?_
   refine Og ?_
   refine zaH (v:=.b true) (e:=true) (by decide) rfl rfl rfl ?_
   refine Om (.b true) ?_
   refine Og ?_
   refine Og ?_
   refine Og ?_
   refine Og ?_
   refine zaH (v:=.b true) (e:=true) (by decide) rfl rfl rfl ?_
   refine Om (.b true) ?_
   refine Og ?_
   refine Og ?_
   refine Og ?_
   refine Og ?_
   refine zaH (v:=.b true) (e:=true) (by decide) rfl rfl rfl ?_
   refine Om (.b true) ?_
   refine Og ?_
   refine Og ?_
   refine Og ?_
   refine Og ?_
   refine zaH (v:=.b true) (e:=true) (by decide) rfl rfl rfl ?_
   refine Ni ?_
   exact zai true (.k .nil) ⟨(hS.keep [] rfl).up (by omega),hM⟩
  ·replace hM:=ifF hM hb4
   refine Oy (want:=false) hb4 ?_
   refine Of ((Pulse.cells a0)) zdo ?_
   refine Oy (want:=false) hb4 ?_
   refine Olp (.i a0.Numbers) zac zah ?_
   refine Oy (want:=false) hb4 ?_
   obtain ⟨r5,hr5,hM⟩:=zal hM
   refine zat (bs:=[.i a0.Numbers,.i 1,.i 5]) (by decide) rfl rfl ((zcW hr5).le (.k (.k (.k .nil)))) ?_
   refine Oy (want:=false) hb4 ?_
   refine zdc (e:=r5) (by decide) rfl ?_
   refine Pf (.b (!r5)) hb4 ?_
   refine Om (.b (!r5)) ?_
   rcases bft (!r5) with hb6 | hb6
   ·replace hM:=ifT hM hb6
    refine On (want:=false) hb6 ?_
    refine On (want:=false) hb6 ?_
    refine On (want:=false) hb6 ?_
    refine On (want:=false) hb6 ?_
    refine Pt (.b true) hb6 ?_
    refine Om (.b true) ?_
    refine Og ?_
    refine Og ?_
    refine Og ?_
    refine Og ?_
    refine Og ?_
    refine Og ?_
    refine Og ?_
    refine zaH (v:=.b true) (e:=true) (by decide) rfl rfl rfl ?_
    refine Om (.b true) ?_
    refine Og ?_
    refine Og ?_
    refine Og ?_
    refine Og ?_
    refine zaH (v:=.b true) (e:=true) (by decide) rfl rfl rfl ?_
    refine Om (.b true) ?_
    refine Og ?_
    refine Og ?_
    refine Og ?_
    refine Og ?_
    refine Og ?_
    refine Og ?_
    refine Og ?_
    refine Og ?_
    refine Og ?_
    refine Og ?_
    refine Og ?_
    refine Og ?_
    refine Og ?_
    refine zaH (v:=.b true) (e:=true) (by decide) rfl rfl rfl ?_
    refine Om (.b true) ?_
    refine Og ?_
    refine Og ?_
    refine Og ?_
    refine Og ?_
    refine zaH (v:=.b true) (e:=true) (by decide) rfl rfl rfl ?_
    refine Om (.b true) ?_
    refine Og ?_
    refine Og ?_
    refine Og ?_
    refine Og ?_
    refine zaH (v:=.b true) (e:=true) (by decide) rfl rfl rfl ?_
    refine Om (.b true) ?_
    refine Og ?_
    refine Og ?_
    refine Og ?_
    refine Og ?_
    refine zaH (v:=.b true) (e:=true) (by decide) rfl rfl rfl ?_
    refine Ni ?_
    exact zai true (.k .nil) ⟨(hS.keep [] rfl).up (by omega),hM⟩
   ·replace hM:=ifF hM hb6
    refine Oy (want:=false) hb6 ?_
    refine Of ((Pulse.cells a0)) zfw ?_
    refine Oy (want:=false) hb6 ?_
    refine Olp (.i a0.Pitch) zac zah ?_
    refine Oy (want:=false) hb6 ?_
    obtain ⟨r7,hr7,hM⟩:=zal hM
    refine zat (bs:=[.i a0.Pitch,.i 1,.i 99]) (by decide) rfl rfl ((zcW hr7).le (.k (.k (.k .nil)))) ?_
    refine Oy (want:=false) hb6 ?_
    refine zdc (e:=r7) (by decide) rfl ?_
    refine Pf (.b (!r7)) hb6 ?_
    refine Om (.b (!r7)) ?_
    rcases bft (!r7) with hb8 | hb8
    ·replace hM:=ifT hM hb8
     refine On (want:=false) hb8 ?_
     refine On (want:=false) hb8 ?_
     refine On (want:=false) hb8 ?_
     refine On (want:=false) hb8 ?_
     refine On (want:=false) hb8 ?_
     refine On (want:=false) hb8 ?_
     refine On (want:=false) hb8 ?_
     refine Pt (.b true) hb8 ?_
     refine Om (.b true) ?_
     refine Og ?_
     refine Og ?_
     refine Og ?_
     refine Og ?_
     refine zaH (v:=.b true) (e:=true) (by decide) rfl rfl rfl ?_
     refine Om (.b true) ?_
     refine Og ?_
     refine Og ?_
     refine Og ?_
     refine Og ?_
     refine Og ?_
     refine Og ?_
     refine Og ?_
     refine Og ?_
     refine Og ?_
     refine Og ?_
     refine Og ?_
     refine Og ?_
     refine Og ?_
     refine zaH (v:=.b true) (e:=true) (by decide) rfl rfl rfl ?_
     refine Om (.b true) ?_
     refine Og ?_
     refine Og ?_
     refine Og ?_
     refine Og ?_
     refine zaH (v:=.b true) (e:=true) (by decide) rfl rfl rfl ?_
     refine Om (.b true) ?_
     refine Og ?_
     refine Og ?_
     refine Og ?_
     refine Og ?_
     refine zaH (v:=.b true) (e:=true) (by decide) rfl rfl rfl ?_
     refine Om (.b true) ?_
     refine Og ?_
     refine Og ?_
     refine Og ?_
     refine Og ?_
     refine zaH (v:=.b true) (e:=true) (by decide) rfl rfl rfl ?_
     refine Ni ?_
     exact zai true (.k .nil) ⟨(hS.keep [] rfl).up (by omega),hM⟩
    ·replace hM:=ifF hM hb8
     refine Oy (want:=false) hb8 ?_
     refine Of ((Pulse.cells a0)) zhE ?_
     refine Oy (want:=false) hb8 ?_
     refine Olp (.i a0.Slack) zac zah ?_
     refine Oy (want:=false) hb8 ?_
     refine Of ((Pulse.cells a0)) zfw ?_
     refine Oy (want:=false) hb8 ?_
     refine Olp (.i a0.Pitch) zac zah ?_
     refine Oy (want:=false) hb8 ?_
     refine Oi (.i (w64 (a0.Pitch-1))) ?_
     refine Oy (want:=false) hb8 ?_
     obtain ⟨r9,hr9,hM⟩:=zal hM
     refine zat (bs:=[.i a0.Slack,.i 0,.i (w64 (a0.Pitch-1))]) (by decide) rfl rfl ((zcW hr9).le (.k (.k (.k .nil)))) ?_
     refine Oy (want:=false) hb8 ?_
     refine zdc (e:=r9) (by decide) rfl ?_
     refine Pf (.b (!r9)) hb8 ?_
     refine Om (.b (!r9)) ?_
     rcases bft (!r9) with hb10 | hb10
     ·replace hM:=ifT hM hb10
      refine On (want:=false) hb10 ?_
      refine On (want:=false) hb10 ?_
      refine On (want:=false) hb10 ?_
      refine On (want:=false) hb10 ?_
      refine Pt (.b true) hb10 ?_
      refine Om (.b true) ?_
      refine Og ?_
      refine Og ?_
      refine Og ?_
      refine Og ?_
      refine Og ?_
      refine Og ?_
      refine Og ?_
      refine Og ?_
      refine Og ?_
      refine Og ?_
      refine Og ?_
      refine Og ?_
      refine Og ?_
      refine zaH (v:=.b true) (e:=true) (by decide) rfl rfl rfl ?_
      refine Om (.b true) ?_
      refine Og ?_
      refine Og ?_
      refine Og ?_
      refine Og ?_
      refine zaH (v:=.b true) (e:=true) (by decide) rfl rfl rfl ?_
      refine Om (.b true) ?_
      refine Og ?_
      refine Og ?_
      refine Og ?_
      refine Og ?_
      refine zaH (v:=.b true) (e:=true) (by decide) rfl rfl rfl ?_
      refine Om (.b true) ?_
      refine Og ?_
      refine Og ?_
      refine Og ?_
      refine Og ?_
      refine zaH (v:=.b true) (e:=true) (by decide) rfl rfl rfl ?_
      refine Ni ?_
      exact zai true (.k .nil) ⟨(hS.keep [] rfl).up (by omega),hM⟩
     ·replace hM:=ifF hM hb10
      refine Oy (want:=false) hb10 ?_
      refine Of ((Pulse.cells a0)) zhF ?_
      refine Oy (want:=false) hb10 ?_
      refine Olp (.i a0.Pause) zac zah ?_
      refine Oy (want:=false) hb10 ?_
      obtain ⟨r11,hr11,hM⟩:=zal hM
      refine zat (bs:=[.i a0.Pause,.i 1,.i 999]) (by decide) rfl rfl ((zcW hr11).le (.k (.k (.k .nil)))) ?_
      refine Oy (want:=false) hb10 ?_
      refine zdc (e:=r11) (by decide) rfl ?_
      refine Pf (.b (!r11)) hb10 ?_
      refine Om (.b (!r11)) ?_
      rcases bft (!r11) with hb12 | hb12
      ·replace hM:=ifT hM hb12
       refine On (want:=false) hb12 ?_
       refine On (want:=false) hb12 ?_
       refine On (want:=false) hb12 ?_
       refine On (want:=false) hb12 ?_
       refine On (want:=false) hb12 ?_
       refine On (want:=false) hb12 ?_
       refine On (want:=false) hb12 ?_
       refine On (want:=false) hb12 ?_
       refine On (want:=false) hb12 ?_
       refine On (want:=false) hb12 ?_
       refine On (want:=false) hb12 ?_
       refine On (want:=false) hb12 ?_
       refine On (want:=false) hb12 ?_
       refine Pt (.b true) hb12 ?_
       refine Om (.b true) ?_
       refine Og ?_
       refine Og ?_
       refine Og ?_
       refine Og ?_
       refine zaH (v:=.b true) (e:=true) (by decide) rfl rfl rfl ?_
       refine Om (.b true) ?_
       refine Og ?_
       refine Og ?_
       refine Og ?_
       refine Og ?_
       refine zaH (v:=.b true) (e:=true) (by decide) rfl rfl rfl ?_
       refine Om (.b true) ?_
       refine Og ?_
       refine Og ?_
       refine Og ?_
       refine Og ?_
       refine zaH (v:=.b true) (e:=true) (by decide) rfl rfl rfl ?_
       refine Ni ?_
       exact zai true (.k .nil) ⟨(hS.keep [] rfl).up (by omega),hM⟩
      ·replace hM:=ifF hM hb12
       refine Oy (want:=false) hb12 ?_
       refine Of ((Pulse.cells a0)) zjt ?_
       refine Oy (want:=false) hb12 ?_
       refine Olp (.i a0.Gap) zac zah ?_
       refine Oy (want:=false) hb12 ?_
       refine Of ((Pulse.cells a0)) zfw ?_
       refine Oy (want:=false) hb12 ?_
       refine Olp (.i a0.Pitch) zac zah ?_
       refine Oy (want:=false) hb12 ?_
       refine Of ((Pulse.cells a0)) zhE ?_
       refine Oy (want:=false) hb12 ?_
       refine Olp (.i a0.Slack) zac zah ?_
       refine Oy (want:=false) hb12 ?_
       refine Oi (.i (w64 (a0.Pitch+a0.Slack))) ?_
       refine Oy (want:=false) hb12 ?_
       refine Oi (.i (w64 ((w64 (a0.Pitch+a0.Slack))+1))) ?_
       refine Oy (want:=false) hb12 ?_
       refine Of ((Pulse.cells a0)) zhF ?_
       refine Oy (want:=false) hb12 ?_
       refine Olp (.i a0.Pause) zac zah ?_
       refine Oy (want:=false) hb12 ?_
       refine Oi (.i (w64 (a0.Pause-1))) ?_
       refine Oy (want:=false) hb12 ?_
       obtain ⟨r13,hr13,hM⟩:=zal hM
       refine zat (bs:=[.i a0.Gap,.i (w64 ((w64 (a0.Pitch+a0.Slack))+1)),.i (w64 (a0.Pause-1))]) (by decide) rfl rfl ((zcW hr13).le (.k (.k (.k .nil)))) ?_
       refine Oy (want:=false) hb12 ?_
       refine zdc (e:=r13) (by decide) rfl ?_
       refine Pf (.b (!r13)) hb12 ?_
       refine Om (.b (!r13)) ?_
       rcases bft (!r13) with hb14 | hb14
       ·replace hM:=ifT hM hb14
        refine On (want:=false) hb14 ?_
        refine On (want:=false) hb14 ?_
        refine On (want:=false) hb14 ?_
        refine On (want:=false) hb14 ?_
        refine Pt (.b true) hb14 ?_
        refine Om (.b true) ?_
        refine Og ?_
        refine Og ?_
        refine Og ?_
        refine Og ?_
        refine zaH (v:=.b true) (e:=true) (by decide) rfl rfl rfl ?_
        refine Om (.b true) ?_
        refine Og ?_
        refine Og ?_
        refine Og ?_
        refine Og ?_
        refine zaH (v:=.b true) (e:=true) (by decide) rfl rfl rfl ?_
        refine Ni ?_
        exact zai true (.k .nil) ⟨(hS.keep [] rfl).up (by omega),hM⟩
       ·replace hM:=ifF hM hb14
        refine Oy (want:=false) hb14 ?_
        refine Of ((Pulse.cells a0)) zju ?_
        refine Oy (want:=false) hb14 ?_
        refine Olp (.i a0.Sparks) zac zah ?_
        refine Oy (want:=false) hb14 ?_
        obtain ⟨r15,hr15,hM⟩:=zal hM
        refine zat (bs:=[.i a0.Sparks,.i 0,.i 3]) (by decide) rfl rfl ((zcW hr15).le (.k (.k (.k .nil)))) ?_
        refine Oy (want:=false) hb14 ?_
        refine zdc (e:=r15) (by decide) rfl ?_
        refine Pf (.b (!r15)) hb14 ?_
        refine Om (.b (!r15)) ?_
        rcases bft (!r15) with hb16 | hb16
        ·replace hM:=ifT hM hb16
         refine On (want:=false) hb16 ?_
         refine On (want:=false) hb16 ?_
         refine On (want:=false) hb16 ?_
         refine On (want:=false) hb16 ?_
         refine Pt (.b true) hb16 ?_
         refine Om (.b true) ?_
         refine Og ?_
         refine Og ?_
         refine Og ?_
         refine Og ?_
         refine zaH (v:=.b true) (e:=true) (by decide) rfl rfl rfl ?_
         refine Ni ?_
         exact zai true (.k .nil) ⟨(hS.keep [] rfl).up (by omega),hM⟩
        ·replace hM:=ifF hM hb16
         refine Oy (want:=false) hb16 ?_
         refine Of ((Pulse.cells a0)) zdW ?_
         refine Oy (want:=false) hb16 ?_
         refine Olp (.sl .no 1 (a0.Times.map cI)) zbr zcc ?_
         refine Oy (want:=false) hb16 ?_
         refine zco (n:=a0.Times.length) (by decide) rfl (List.length_map _) zbc ?_
         refine Oy (want:=false) hb16 ?_
         refine Oi (.b (decide ((a0.Times.length:Int)>24))) ?_
         refine Pf (.b (decide ((a0.Times.length:Int)>24))) hb16 ?_
         refine Om (.b (decide ((a0.Times.length:Int)>24))) ?_
         rcases bft (decide ((a0.Times.length:Int)>24)) with hb17 | hb17
         ·replace hM:=ifT hM hb17
          refine On (want:=false) hb17 ?_
          refine On (want:=false) hb17 ?_
          refine On (want:=false) hb17 ?_
          refine On (want:=false) hb17 ?_
          refine Pt (.b true) hb17 ?_
          refine Ni ?_
          exact zai true (.k .nil) ⟨(hS.keep [] rfl).up (by omega),hM⟩
         ·replace hM:=ifF hM hb17
          refine Oy (want:=false) hb17 ?_
          refine Of ((Pulse.cells a0)) zdW ?_
          refine Oy (want:=false) hb17 ?_
          refine Olp (.sl .no 1 (a0.Times.map cI)) zbr zcc ?_
          refine Oy (want:=false) hb17 ?_
          obtain ⟨r18,hr18,hM⟩:=zal hM
          refine zat (bs:=[.sl .no 1 (a0.Times.map cI),.i 0,.i 99999]) (by decide) rfl rfl ((zlE hr18).le (.k (.k (.k .nil)))) ?_
          refine Oy (want:=false) hb17 ?_
          refine zdc (e:=r18) (by decide) rfl ?_
          refine Pf (.b (!r18)) hb17 ?_
          refine Ni ?_
          exact zai (!r18) (.k .nil) ⟨(hS.keep [] rfl).up (by omega),hM⟩
theorem zi9 {a0:Pulse} {a1:Int} {r:Bool} (hM:zfH a0 a1=some r):zav Tryz.prog 45 [.agg (Pulse.cells a0),.i a1] (.b r):=by
 refine zan mixed Tryz.func45 rfl (by decide) Tryz.ntmps45 (by simp) ?pure fun H0 g hf=>?_
 case pure=>exact .v _
 rw [zag]
 change wpA _ _ _ _ (Fr.of [(0,.agg (Pulse.cells a0)),(1,.i a1)]) H0 g
 have hS:=St.start hf
 refine Sq ?_
 refine Rg 2 ?_
 refine zbP (v:=.agg (Pulse.cells a0)) (cs:=(Pulse.cells a0)) hS (by decide) rfl rfl (by omega) fun H hS=>?_
 refine Oa (.b false) ?_
 refine Ni ?_
 refine zaT (L':=[]) 0 2 hS rfl rfl rfl fun H hS=>?_
 refine Ws ?_
 refine Sq ?_
 refine Rg 9 ?_
 refine Om (.i a1) ?_
 refine Of ((Pulse.cells a0)) zgX ?_
 refine Olp (.i a0.Letters) zac zah ?_
 refine Of ((Pulse.cells a0)) zdo ?_
 refine Olp (.i a0.Numbers) zac zah ?_
 refine Oi (.i (w64 (a0.Letters*a0.Numbers))) ?_
 refine Oi (.i (w64 ((w64 (a0.Letters*a0.Numbers))-1))) ?_
 obtain ⟨r1,hr1,hM⟩:=zal hM
 refine zat (bs:=[.i a1,.i 0,.i (w64 ((w64 (a0.Letters*a0.Numbers))-1))]) (by decide) rfl rfl ((zcW hr1).le (.k (.k (.k .nil)))) ?_
 refine Oa (.b r1) ?_
 refine Ni ?_
 refine zej [(4,.b r1)] (.k .nil) ?_
 refine zaB ?_
 refine zaO (x:=.b r1) (f:=fun r=>.b r) (.inr rfl) ?_ (.refl _) (Option.some.inj hM) hS
 exact (zam (zad (x:=.b r1) rfl))
theorem zlF {n:Nat} {a0:Pulse} {a1:List Int} {r:Bool} (hM:zij n a0 a1=some r):zav Tryz.prog 21 [.agg (Pulse.cells a0),.sl .no 1 (a1.map cI)] (.b r):=by
 refine zan mixed Tryz.func21 rfl (by decide) Tryz.ntmps21 (by simp) ?pure fun H0 g hf=>?_
 case pure=>exact .v _
 rw [zag]
 change wpA _ _ _ _ (Fr.of [(0,.agg (Pulse.cells a0)),(1,.sl .no 1 (a1.map cI))]) H0 g
 have hS:=St.start hf
 refine Sq ?_
 refine Rg 2 ?_
 refine zbP (v:=.agg (Pulse.cells a0)) (cs:=(Pulse.cells a0)) hS (by decide) rfl rfl (by omega) fun H hS=>?_
 refine Oa (.b false) ?_
 refine Ni ?_
 refine zaT (L':=[]) 0 2 hS rfl rfl rfl fun H hS=>?_
 refine Ws ?_
 refine zaF (J:=Unit) (fun j=>[(1,.sl .no 1 (a1.map cI))]) (fun j H' g'=>St (·<g) H0 [] H' g'/\zfl a1=some r) ?_ ?_
 ·rintro _ H g1 ⟨hS,hM⟩
  change wpA _ _ _ _ (Fr.of [(1,.sl .no 1 (a1.map cI))]) _ _
  replace hS:St (·<g) H0 [] H g1:=hS
  replace hM:zfl a1=some r:=hM
  refine Sq ?_
  refine Rg 4 ?_
  refine Om (.sl .no 1 (a1.map cI)) ?_
  refine zco (n:=a1.length) (by decide) rfl (List.length_map _) zbc ?_
  refine Oi (.b (decide ((a1.length:Int)<=24))) ?_
  refine Oa (.b (decide ((a1.length:Int)<=24))) ?_
  refine Ni ?_
  refine Ws ?_
  refine zaB ?_
  refine zaO (x:=.b (decide ((a1.length:Int)<=24))) (f:=fun r=>.b r) (.inr rfl) ?_ (.refl _) (Option.some.inj hM) hS
  exact (zam (zad (x:=.b (decide ((a1.length:Int)<=24))) rfl))
 ·refine Sq ?_
  refine Rg 1 ?_
  refine Oa (.i 0) ?_
  refine Ni ?_
  refine Ws ?_
  refine zap ?_
  refine zbI (V:=Int) (fun v=>[(1,.sl .no 1 (a1.map cI)),(2,.ep (Pulse.cells a0)),(5,.i v)]) (fun v m2 H' g'=>St (·<g) H0 [] H' g'/\zcY a0 a1 m2 v=some r) (n:=n) 0 (.k (.k (.k .nil))) ⟨(hS.keep [] rfl).up (by omega),hM⟩ ?_
  rintro v1 m2 H g2 ⟨hS,hM⟩
  obtain _ | m2:=m2
  ·exact nomatch (show none=some _ from hM)
  change wpA _ _ _ _ (Fr.of [(1,.sl .no 1 (a1.map cI)),(2,.ep (Pulse.cells a0)),(5,.i v1)]) _ _
  replace hS:St (·<g) H0 [] H g2:=hS
  replace hM:zeG a0 a1 (zcY a0 a1 m2) v1=some r:=hM
  refine Sq ?_
  refine Sq ?_
  refine Rg 4 ?_
  refine Om (.i v1) ?_
  refine Om (.sl .no 1 (a1.map cI)) ?_
  refine zco (n:=a1.length) (by decide) rfl (List.length_map _) zbc ?_
  refine Oi (.b (decide (v1<(a1.length:Int)))) ?_
  refine Ni ?_
  refine Ws ?_
  rcases bft (decide (v1<(a1.length:Int))) with hb2 | hb2
  ·replace hM:=ifT hM hb2
   refine Ct hb2 ?_
   refine zas ?_
   refine Ws ?_
   refine Sq ?_
   refine zap ?_
   refine Sq ?_
   have hS0:=hS
   refine zdy (n:=7) rfl (by kernel_rfl) ?_
   refine Olg (.agg (Pulse.cells a0)) zbM ?_
   refine Om (.sl .no 1 (a1.map cI)) ?_
   refine Om (.i v1) ?_
   obtain ⟨x3,hx3,hM⟩:=zal hM
   refine zbj (xs:=a1) (f:=cI) (z:=v1) (u:=x3) (by decide) rfl rfl zbi hx3 ?_
   refine Olp (.i x3) zac zah ?_
   obtain ⟨r4,hr4,hM⟩:=zal hM
   refine zat (bs:=[.agg (Pulse.cells a0),.i x3]) (by decide) rfl rfl ((zi9 hr4).le (.k (.k .nil))) ?_
   refine zdc (e:=r4) (by decide) rfl ?_
   refine Ni ?_
   refine Ws ?_
   rcases bft (!r4) with hb5 | hb5
   ·replace hM:=ifT hM hb5
    refine Ct hb5 ?_
    refine Sq ?_
    refine Rg 1 ?_
    refine Oa (.b false) ?_
    refine Ni ?_
    refine Ws ?_
    refine zaB ?_
    refine zaq ?_
    refine zak ?_
    refine zaL ?_
    refine zaq ?_
    refine zaI ?_
    refine zaO (x:=.b false) (f:=fun r=>.b r) (.inr rfl) ?_ (.refl _) (Option.some.inj hM) hS
    exact (zam (zad (x:=.b false) rfl))
   ·replace hM:=ifF hM hb5
    refine Cf hb5 ?_
    refine zas ?_
    refine zae ?_
    refine Ws ?_
    refine Rg 3 ?_
    refine Om (.i v1) ?_
    refine Oi (.i (w64 (v1+1))) ?_
    refine Oa (.i (w64 (v1+1))) ?_
    refine Ni ?_
    exact za4 (w64 (v1+1)) (Nat.lt_succ_self _) (.k (.k (.k .nil))) ⟨(hS.keep [] rfl).up (by omega),hM⟩
  ·replace hM:=ifF hM hb2
   refine Cf hb2 ?_
   refine zbw ?_
   refine zar ?_
   refine zao ?_
   refine zaw ?_
   exact zai () (.k .nil) ⟨(hS.keep [] rfl).up (by omega),hM⟩
theorem ziv {a0:Int} {r:Bool} (hM:zfm a0=some r):zav Tryz.prog 47 [.i a0] (.b r):=by
 refine zan mixed Tryz.func47 rfl (by decide) Tryz.ntmps47 (by simp) ?pure fun H0 g hf=>?_
 case pure=>exact .v _
 rw [zag]
 change wpA _ _ _ _ (Fr.of [(0,.i a0)]) H0 g
 have hS:=St.start hf
 refine Sq ?_
 refine Rg 1 ?_
 refine Oa (.b false) ?_
 refine Ni ?_
 refine Ws ?_
 refine Sq ?_
 refine Rg 3 ?_
 refine Om (.i a0) ?_
 obtain ⟨r1,hr1,hM⟩:=zal hM
 refine zat (bs:=[.i a0,.i 0,.i 99999]) (by decide) rfl rfl ((zc2 hr1).le (.k (.k (.k .nil)))) ?_
 refine Oa (.b r1) ?_
 refine Ni ?_
 refine Ws ?_
 refine zaB ?_
 refine zaO (x:=.b r1) (f:=fun r=>.b r) (.inr rfl) ?_ (.refl _) (Option.some.inj hM) hS
 exact (zam (zad (x:=.b r1) rfl))
theorem zh0 {S:Type} {Lo:S->BL} (hk:∀s s',zgl (Lo s) (Lo s')) (hnd:∀s,(ids (Lo s)).Nodup) (hin:∀s,InB In (Lo s)) {aF:Int->S->Option (Bool×S)} {f0:AV} (hF:∀s H,Has H (Lo s)->In H f0) (h0:cellsOf f0=some [f0]) (hf:∀{x0:Int} {s:S} {r:Bool×S},aF x0 s=some r->zjP Tryz.prog f0 [.i x0] (Lo s) (.b r.1) (Lo r.2)) {n:Nat} {a0:List Int} {st:S} {r:Int×S} (hM:zeM n aF a0 st=some r):zhv Tryz.prog 71 [.sl .no 1 (a0.map cI),f0] (Lo st) (.i r.1) (Lo r.2):=by
 have hnd0:∀s,(ids (Lo s)).Nodup:=fun s=>hnd s
 refine zbg mixed Tryz.func71 rfl (by decide) Tryz.ntmps71 (by simp) (hk _ _) (hnd st) ?pure ?cells fun H0 g hf_ hp=>?_
 case pure=>exact fun H _=>(show Go.AM.Pure _ from .v _).inH
 case cells=>exact hin _
 rw [zag]
 change wpA _ _ _ _ (Fr.of [(0,.sl .no 1 (a0.map cI)),(1,f0)]) H0 g
 have hS:=St.startH (L:=([]++Lo st)) hf_ (hnd st) hp
 replace hS:St (fun i=>i<g/\i∉ids (Lo st)) H0 ([]++Lo st) H0 g:=hS
 refine Sq ?_
 refine Rg 1 ?_
 refine Oa (.i 0) ?_
 refine Ni ?_
 refine Ws ?_
 refine zaF (J:=S) (fun j=>[]) (fun j H' g'=>St (fun i=>i<g/\i∉ids (Lo st)) H0 ([]++Lo j) H' g'/\zcP j=some r) ?_ ?_
 ·rintro v1 H g1 ⟨hS,hM⟩
  change wpA _ _ _ _ (Fr.of []) _ _
  replace hS:St (fun i=>i<g/\i∉ids (Lo st)) H0 ([]++Lo v1) H g1:=hS
  replace hM:zcP v1=some r:=hM
  refine Sq ?_
  refine Rg 1 ?_
  refine Oa (.i (-1)) ?_
  refine Ni ?_
  refine Ws ?_
  refine zaB ?_
  refine zcD (x:=.i (-1)) (f:=fun r=>.i r.1) (fd:=fun r=>(Lo r.2)) (.inr rfl) ?_ (.refl _) (Option.some.inj hM) hS 0 rfl
  exact (zam (zad (x:=.i (-1)) rfl))
 ·refine Sq ?_
  refine Rg 3 ?_
  refine Om (.sl .no 1 (a0.map cI)) ?_
  refine zco (n:=a0.length) (by decide) rfl (List.length_map _) zbc ?_
  refine Om (.i 0) ?_
  refine Ni ?_
  refine Ws ?_
  refine zap ?_
  refine zbI (V:=Int×S) (fun v=>[(0,.sl .no 1 (a0.map cI)),(1,f0),(7,.i (a0.length:Int)),(8,.i v.1)]) (fun v m3 H' g'=>St (fun i=>i<g/\i∉ids (Lo st)) H0 ([]++Lo v.2) H' g'/\zbh a0 aF m3 v.1 v.2=some r) (n:=n) (0,st) (.k (.k (.k (.k .nil)))) ⟨(hS.keep [] rfl).up (by omega),hM⟩ ?_
  rintro ⟨v3,v4⟩ m3 H g3 ⟨hS,hM⟩
  obtain _ | m3:=m3
  ·exact nomatch (show none=some _ from hM)
  change wpA _ _ _ _ (Fr.of [(0,.sl .no 1 (a0.map cI)),(1,f0),(7,.i (a0.length:Int)),(8,.i v3)]) _ _
  replace hS:St (fun i=>i<g/\i∉ids (Lo st)) H0 ([]++Lo v4) H g3:=hS
  replace hM:zcs a0 aF (zbh a0 aF m3) v3 v4=some r:=hM
  refine Sq ?_
  refine Rg 1 ?_
  refine Oi (.b (decide (v3<(a0.length:Int)))) ?_
  refine Ni ?_
  refine Ws ?_
  refine Sq ?_
  rcases bft (decide (v3<(a0.length:Int))) with hb5 | hb5
  ·replace hM:=ifT hM hb5
   refine Ct hb5 ?_
   refine zas ?_
   refine Ws ?_
   refine Sq ?_
   refine zap ?_
   refine Sq ?_
   refine Rg 2 ?_
   refine Om (.i v3) ?_
   refine Oa (.i v3) ?_
   refine Ni ?_
   refine Ws ?_
   refine Sq ?_
   refine Rg 6 ?_
   refine Om (f0) ?_
   refine Om (.sl .no 1 (a0.map cI)) ?_
   refine Om (.i v3) ?_
   obtain ⟨x6,hx6,hM⟩:=zal hM
   refine zbj (xs:=a0) (f:=cI) (z:=v3) (u:=x6) (by decide) rfl rfl zbi hx6 ?_
   refine Olp (.i x6) zac zah ?_
   obtain ⟨r7,hr7,hM⟩:=zal hM
   replace hS:St (fun i=>i<g/\i∉ids (Lo st)) H0 ([]++Lo v4) _ _:=hS
   refine zhN (bs:=[.i x6]) (.inl rfl) hS (by decide) rfl rfl ((hf hr7).le (.k .nil)) (hk _ _).ids (by omega) fun H hS=>?_
   refine Ni ?_
   refine Ws ?_
   rcases bft r7.1 with hb8 | hb8
   ·replace hM:=ifT hM hb8
    refine Ct hb8 ?_
    refine Sq ?_
    refine Rg 2 ?_
    refine Om (.i v3) ?_
    refine Oa (.i v3) ?_
    refine Ni ?_
    refine Ws ?_
    refine zaB ?_
    refine zaq ?_
    refine zak ?_
    refine zaL ?_
    refine zaq ?_
    refine zaI ?_
    refine zcD (x:=.i v3) (f:=fun r=>.i r.1) (fd:=fun r=>(Lo r.2)) (.inr rfl) ?_ (.refl _) (Option.some.inj hM) hS 0 rfl
    exact (zam (zad (x:=.i v3) rfl))
   ·replace hM:=ifF hM hb8
    refine Cf hb8 ?_
    refine zas ?_
    refine zae ?_
    refine Ws ?_
    refine Rg 2 ?_
    refine Oi (.i (w64 (v3+1))) ?_
    refine Om (.i (w64 (v3+1))) ?_
    refine Ni ?_
    exact za4 (w64 (v3+1),r7.2) (Nat.lt_succ_self _) (.k (.k (.k (.k .nil)))) ⟨(hS.keep [] rfl).up (by omega),hM⟩
  ·replace hM:=ifF hM hb5
   refine Cf hb5 ?_
   refine zbw ?_
   refine zar ?_
   refine zao ?_
   refine zaw ?_
   exact zai v4 .nil ⟨(hS.keep [] rfl).up (by omega),hM⟩
theorem zhs {S:Type} {Lo:S->BL} (hk:∀s s',zgl (Lo s) (Lo s')) (hnd:∀s,(ids (Lo s)).Nodup) (hin:∀s,InB In (Lo s)) {aF:Int->S->Option (Bool×S)} {f0:AV} (hF:∀s H,Has H (Lo s)->In H f0) (h0:cellsOf f0=some [f0]) (hf:∀{x0:Int} {s:S} {r:Bool×S},aF x0 s=some r->zjP Tryz.prog f0 [.i x0] (Lo s) (.b r.1) (Lo r.2)) {n:Nat} {a0:List Int} {st:S} {r:Bool×S} (hM:zcQ n aF a0 st=some r):zhv Tryz.prog 48 [.sl .no 1 (a0.map cI),f0] (Lo st) (.b r.1) (Lo r.2):=by
 have hnd0:∀s,(ids (Lo s)).Nodup:=fun s=>hnd s
 refine zbg mixed Tryz.func48 rfl (by decide) Tryz.ntmps48 (by simp) (hk _ _) (hnd st) ?pure ?cells fun H0 g hf_ hp=>?_
 case pure=>exact fun H _=>(show Go.AM.Pure _ from .v _).inH
 case cells=>exact hin _
 rw [zag]
 change wpA _ _ _ _ (Fr.of [(0,.sl .no 1 (a0.map cI)),(1,f0)]) H0 g
 have hS:=St.startH (L:=([]++Lo st)) hf_ (hnd st) hp
 replace hS:St (fun i=>i<g/\i∉ids (Lo st)) H0 ([]++Lo st) H0 g:=hS
 refine Sq ?_
 refine Rg 1 ?_
 refine Oa (.b false) ?_
 refine Ni ?_
 refine Ws ?_
 refine Sq ?_
 refine Rg 5 ?_
 refine Om (.sl .no 1 (a0.map cI)) ?_
 refine Om (f0) ?_
 obtain ⟨r1,hr1,hM⟩:=zal hM
 replace hS:St (fun i=>i<g/\i∉ids (Lo st)) H0 ([]++Lo st) _ _:=hS
 refine zhe (bs:=[.sl .no 1 (a0.map cI),f0]) (.inl rfl) hS (by decide) rfl rfl ((zh0 (Lo:=Lo)  hk hnd0 hin (aF:=aF) hF h0 hf hr1).le (.k (.k .nil))) (hk _ _).ids (by omega) fun H hS=>?_
 refine Oi (.b (decide (r1.1≥0))) ?_
 refine Oa (.b (decide (r1.1≥0))) ?_
 refine Ni ?_
 refine zej [(4,.b (decide (r1.1≥0)))] (.k .nil) ?_
 refine zaB ?_
 refine zcD (x:=.b (decide (r1.1≥0))) (f:=fun r=>.b r.1) (fd:=fun r=>(Lo r.2)) (.inr rfl) ?_ (.refl _) (Option.some.inj hM) hS 0 rfl
 exact (zam (zad (x:=.b (decide (r1.1≥0))) rfl))
theorem zha {a0:Train_} {a1:Int} {r:Bool} (hM:zdE a0 a1=some r):zav Tryz.prog 50 [.agg (Train_.cells a0),.i a1] (.b r):=by
 refine zan mixed Tryz.func50 rfl (by decide) Tryz.ntmps50 (by simp) ?pure fun H0 g hf=>?_
 case pure=>exact .v _
 rw [zag]
 change wpA _ _ _ _ (Fr.of [(0,.agg (Train_.cells a0)),(1,.i a1)]) H0 g
 have hS:=St.start hf
 refine Sq ?_
 refine Rg 2 ?_
 refine zbP (v:=.agg (Train_.cells a0)) (cs:=(Train_.cells a0)) hS (by decide) rfl rfl (by omega) fun H hS=>?_
 refine Oa (.b false) ?_
 refine Ni ?_
 refine zaT (L':=[]) 0 2 hS rfl rfl rfl fun H hS=>?_
 refine Ws ?_
 refine Sq ?_
 refine Rg 11 ?_
 refine Om (.i a1) ?_
 refine Of ((Train_.cells a0)) zc1 ?_
 refine Of ((Train_.cells a0)) zgX ?_
 refine Olp (.i a0.Pulse.Letters) zac zah ?_
 refine Of ((Train_.cells a0)) zc1 ?_
 refine Of ((Train_.cells a0)) zdo ?_
 refine Olp (.i a0.Pulse.Numbers) zac zah ?_
 refine Oi (.i (w64 (a0.Pulse.Letters*a0.Pulse.Numbers))) ?_
 refine Oi (.i (w64 ((w64 (a0.Pulse.Letters*a0.Pulse.Numbers))-1))) ?_
 obtain ⟨r1,hr1,hM⟩:=zal hM
 refine zat (bs:=[.i a1,.i 0,.i (w64 ((w64 (a0.Pulse.Letters*a0.Pulse.Numbers))-1))]) (by decide) rfl rfl ((zc2 hr1).le (.k (.k (.k .nil)))) ?_
 refine Oa (.b r1) ?_
 refine Ni ?_
 refine Ws ?_
 refine zaB ?_
 refine zaO (x:=.b r1) (f:=fun r=>.b r) (.inr rfl) ?_ (.refl _) (Option.some.inj hM) hS
 exact (zam (zad (x:=.b r1) rfl))
theorem zj5 {p1:Nat} (hnd:[p1].Nodup) {a0:Int} {a1:Train_} {r:Bool} (hM:zen a0 a1=some r):zhv Tryz.prog 49 [.i a0,.ptr p1 0] [(p1,.cells (Train_.cells a1))] (.b r) [(p1,.cells (Train_.cells a1))]:=by
 refine zbg mixed Tryz.func49 rfl (by decide) Tryz.ntmps49 (by simp) (zb6 zd8) hnd ?pure ?cells fun H0 g hf_ hp=>?_
 case pure=>exact fun H _=>(show Go.AM.Pure _ from .v _).inH
 case cells=>exact (zgI (zcp (zax (.inl (.inl (.v _))) (zax (.inl (.inl (.v _))) (zax (.inl (.inl (.v _))) (zax (.inl (.inl (.v _))) (zax (.inl (.inl (.v _))) (zax (.inl (.inl (.v _))) (zax (.inl (.inl (.v _))) (zax (.inl (.inl (.sl _ _ (zau (fun x=>(zaa (.v _) zaC)))))) zeO)))))))) zgH) zd3)
 rw [zag]
 change wpA _ _ _ _ (Fr.of [(0,.i a0),(1,.ptr p1 0)]) H0 g
 have hS:=St.startH (L:=[(p1,.cells (Train_.cells a1))]) hf_ hnd hp
 replace hS:St (fun i=>i<g/\i∉ids [(p1,.cells (Train_.cells a1))]) H0 [(p1,.cells (Train_.cells a1))] H0 g:=hS
 refine Sq ?_
 refine Rg 1 ?_
 refine Oa (.b false) ?_
 refine Ni ?_
 refine Ws ?_
 refine Sq ?_
 refine Rg 5 ?_
 refine zaW (v:=.agg (Train_.cells a1)) 0 hS (by decide) rfl rfl .no (pg zhj) ?_
 refine Om (.i a0) ?_
 obtain ⟨r1,hr1,hM⟩:=zal hM
 refine zat (bs:=[.agg (Train_.cells a1),.i a0]) (by decide) rfl rfl ((zha hr1).le (.k (.k .nil))) ?_
 refine zdc (e:=r1) (by decide) rfl ?_
 refine Oa (.b (!r1)) ?_
 refine Ni ?_
 refine Ws ?_
 refine zaB ?_
 refine zcD (x:=.b (!r1)) (f:=fun r=>.b r) (fd:=fun r=>[(p1,.cells (Train_.cells a1))]) (.inr rfl) ?_ (.refl _) (Option.some.inj hM) hS 0 rfl
 exact (zam (zad (x:=.b (!r1)) rfl))
end Go.Proofs.YtebfppngmmdfkaaGreat
