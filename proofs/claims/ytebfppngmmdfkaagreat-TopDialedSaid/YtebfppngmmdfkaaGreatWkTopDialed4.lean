/-
  The code returns what the functions say (printed by gen.py).
  Conditions: none.
-/
import Derived.Test.YtebfppngmmdfkaaGreatWkTopDialed3
import Derived.Test.YtebfppngmmdfkaaGreatAmPg
import Derived.Test.YtebfppngmmdfkaaGreatSh
set_option linter.all false
namespace Go.Proofs.YtebfppngmmdfkaaGreat
open Go Go.AM Go.Law
set_option linter.unusedVariables false
set_option maxRecDepth 4000
set_option maxHeartbeats 4000000
theorem ziz {n:Nat} {a0:List WireFault} {r:Panel_} (hM:zgB n a0=some r):zav Tryz.prog 33 [.sl .no 3 (a0.map WireFault.cells)] (.agg [.i r.letters.c0,.i r.letters.c1,.i r.letters.c2,.i r.letters.c3,.i r.letters.c4,.i r.numbers.c0,.i r.numbers.c1,.i r.numbers.c2,.i r.numbers.c3,.i r.numbers.c4]):=by
 refine zan mixed Tryz.func33 rfl (by decide) Tryz.ntmps33 (by simp) ?pure fun H0 g hf=>?_
 case pure=>exact .agg _ (zaa (.v _) (zaa (.v _) (zaa (.v _) (zaa (.v _) (zaa (.v _) (zaa (.v _) (zaa (.v _) (zaa (.v _) (zaa (.v _) (zaa (.v _) zaC))))))))))
 rw [zag]
 change wpA _ _ _ _ (Fr.of [(0,.sl .no 3 (a0.map WireFault.cells))]) H0 g
 have hS:=St.start hf
 refine Sq ?_
 refine Rg 1 ?_
 refine zcj hS (by decide) zlh (by omega) fun H hS=>?_
 refine Ni ?_
 refine Ws ?_
 refine Sq ?_
 refine Rg 1 ?_
 refine zcj hS (by decide) zlh (by omega) fun H hS=>?_
 refine Ni ?_
 refine Ws ?_
 refine zaF (J:=Int×Int×Int×Int×Int×Int×Int×Int×Int×Int) (fun j=>[(0,.sl .no 3 (a0.map WireFault.cells)),(2,.ptr (g+0) 0),(3,.ptr (g+1+0) 0)]) (fun j H' g'=>St (·<g) H0 [(g+1+0,.cells [.i j.1,.i j.2.1,.i j.2.2.1,.i j.2.2.2.1,.i j.2.2.2.2.1,.i j.2.2.2.2.2.1,.i j.2.2.2.2.2.2.1,.i j.2.2.2.2.2.2.2.1,.i j.2.2.2.2.2.2.2.2.1,.i j.2.2.2.2.2.2.2.2.2]),(g+0,.cells [.i 0,.i 0,.i 0,.i 0,.i 0,.i 0,.i 0,.i 0,.i 0,.i 0])] H' g'/\zeI n a0 j.1 j.2.1 j.2.2.1 j.2.2.2.1 j.2.2.2.2.1 j.2.2.2.2.2.1 j.2.2.2.2.2.2.1 j.2.2.2.2.2.2.2.1 j.2.2.2.2.2.2.2.2.1 j.2.2.2.2.2.2.2.2.2=some r) ?_ ?_
 ·rintro ⟨v1,v2,v3,v4,v5,v6,v7,v8,v9,v10⟩ H g1 ⟨hS,hM⟩
  change wpA _ _ _ _ (Fr.of [(0,.sl .no 3 (a0.map WireFault.cells)),(2,.ptr (g+0) 0),(3,.ptr (g+1+0) 0)]) _ _
  replace hS:St (·<g) H0 [(g+1+0,.cells [.i v1,.i v2,.i v3,.i v4,.i v5,.i v6,.i v7,.i v8,.i v9,.i v10]),(g+0,.cells [.i 0,.i 0,.i 0,.i 0,.i 0,.i 0,.i 0,.i 0,.i 0,.i 0])] H g1:=hS
  replace hM:zeI n a0 v1 v2 v3 v4 v5 v6 v7 v8 v9 v10=some r:=hM
  refine Sq ?_
  refine Rg 1 ?_
  refine Oa (.fn (.func 64) [] []) ?_
  refine Ni ?_
  refine Ws ?_
  refine zaF (J:=Int×Int×Int×Int×Int×Int×Int×Int×Int×Int) (fun j=>[(0,.sl .no 3 (a0.map WireFault.cells)),(2,.ptr (g+0) 0),(3,.ptr (g+1+0) 0)]) (fun j H' g'=>St (·<g) H0 [(g+1+0,.cells [.i j.1,.i j.2.1,.i j.2.2.1,.i j.2.2.2.1,.i j.2.2.2.2.1,.i j.2.2.2.2.2.1,.i j.2.2.2.2.2.2.1,.i j.2.2.2.2.2.2.2.1,.i j.2.2.2.2.2.2.2.2.1,.i j.2.2.2.2.2.2.2.2.2]),(g+0,.cells [.i 0,.i 0,.i 0,.i 0,.i 0,.i 0,.i 0,.i 0,.i 0,.i 0])] H' g'/\zfp n a0 j.1 j.2.1 j.2.2.1 j.2.2.2.1 j.2.2.2.2.1 j.2.2.2.2.2.1 j.2.2.2.2.2.2.1 j.2.2.2.2.2.2.2.1 j.2.2.2.2.2.2.2.2.1 j.2.2.2.2.2.2.2.2.2=some r) ?_ ?_
  ·rintro ⟨v11,v12,v13,v14,v15,v16,v17,v18,v19,v20⟩ H g2 ⟨hS,hM⟩
   change wpA _ _ _ _ (Fr.of [(0,.sl .no 3 (a0.map WireFault.cells)),(2,.ptr (g+0) 0),(3,.ptr (g+1+0) 0)]) _ _
   replace hS:St (·<g) H0 [(g+1+0,.cells [.i v11,.i v12,.i v13,.i v14,.i v15,.i v16,.i v17,.i v18,.i v19,.i v20]),(g+0,.cells [.i 0,.i 0,.i 0,.i 0,.i 0,.i 0,.i 0,.i 0,.i 0,.i 0])] H g2:=hS
   replace hM:zfp n a0 v11 v12 v13 v14 v15 v16 v17 v18 v19 v20=some r:=hM
   refine zaF (J:=Int×Int×Int×Int×Int×Int×Int×Int×Int×Int) (fun j=>[(2,.ptr (g+0) 0),(3,.ptr (g+1+0) 0)]) (fun j H' g'=>St (·<g) H0 [(g+1+0,.cells [.i j.1,.i j.2.1,.i j.2.2.1,.i j.2.2.2.1,.i j.2.2.2.2.1,.i j.2.2.2.2.2.1,.i j.2.2.2.2.2.2.1,.i j.2.2.2.2.2.2.2.1,.i j.2.2.2.2.2.2.2.2.1,.i j.2.2.2.2.2.2.2.2.2]),(g+0,.cells [.i 0,.i 0,.i 0,.i 0,.i 0,.i 0,.i 0,.i 0,.i 0,.i 0])] H' g'/\zgw j.1 j.2.1 j.2.2.1 j.2.2.2.1 j.2.2.2.2.1 j.2.2.2.2.2.1 j.2.2.2.2.2.2.1 j.2.2.2.2.2.2.2.1 j.2.2.2.2.2.2.2.2.1 j.2.2.2.2.2.2.2.2.2=some r) ?_ ?_
   ·rintro ⟨v21,v22,v23,v24,v25,v26,v27,v28,v29,v30⟩ H g3 ⟨hS,hM⟩
    change wpA _ _ _ _ (Fr.of [(2,.ptr (g+0) 0),(3,.ptr (g+1+0) 0)]) _ _
    replace hS:St (·<g) H0 [(g+1+0,.cells [.i v21,.i v22,.i v23,.i v24,.i v25,.i v26,.i v27,.i v28,.i v29,.i v30]),(g+0,.cells [.i 0,.i 0,.i 0,.i 0,.i 0,.i 0,.i 0,.i 0,.i 0,.i 0])] H g3:=hS
    replace hM:zgw v21 v22 v23 v24 v25 v26 v27 v28 v29 v30=some r:=hM
    refine Sq ?_
    refine Rg 2 ?_
    refine zaW (v:=.agg [.i v21,.i v22,.i v23,.i v24,.i v25,.i v26,.i v27,.i v28,.i v29,.i v30]) 0 hS (by decide) rfl rfl .no (pg zmJ) ?_
    refine zaK (v:=.agg [.i v21,.i v22,.i v23,.i v24,.i v25,.i v26,.i v27,.i v28,.i v29,.i v30]) (ns:=[.i v21,.i v22,.i v23,.i v24,.i v25,.i v26,.i v27,.i v28,.i v29,.i v30]) (L':=[(g+1+0,.cells [.i v21,.i v22,.i v23,.i v24,.i v25,.i v26,.i v27,.i v28,.i v29,.i v30]),(g+0,.cells [.i v21,.i v22,.i v23,.i v24,.i v25,.i v26,.i v27,.i v28,.i v29,.i v30])]) 1 hS rfl rfl .no rfl rfl zps nlb rfl fun H hS=>?_
    refine Ni ?_
    replace hS:=hS.keep (L':=[(g+0,.cells [.i v21,.i v22,.i v23,.i v24,.i v25,.i v26,.i v27,.i v28,.i v29,.i v30])]) [false,true] rfl
    refine Ws ?_
    refine zaB ?_
    refine zaO (x:=.agg [.i v21,.i v22,.i v23,.i v24,.i v25,.i v26,.i v27,.i v28,.i v29,.i v30]) (f:=fun r=>.agg [.i r.letters.c0,.i r.letters.c1,.i r.letters.c2,.i r.letters.c3,.i r.letters.c4,.i r.numbers.c0,.i r.numbers.c1,.i r.numbers.c2,.i r.numbers.c3,.i r.numbers.c4]) (.inr rfl) ?_ (.refl _) (Option.some.inj hM) hS
    exact (zam (zcC (x:=.agg [.i v21,.i v22,.i v23,.i v24,.i v25,.i v26,.i v27,.i v28,.i v29,.i v30]) 0 hS rfl rfl (pg zmJ)))
   ·refine Sq ?_
    refine Rg 3 ?_
    refine Om (.sl .no 3 (a0.map WireFault.cells)) ?_
    refine zco (n:=a0.length) (by decide) rfl (List.length_map _) zeK ?_
    refine Om (.i 0) ?_
    refine Ni ?_
    refine Ws ?_
    refine zap ?_
    refine zbI (V:=Int×Int×Int×Int×Int×Int×Int×Int×Int×Int×Int) (fun v=>[(2,.ptr (g+0) 0),(3,.ptr (g+1+0) 0),(43,.sl .no 3 (a0.map WireFault.cells)),(44,.i (a0.length:Int)),(45,.i v.1)]) (fun v m5 H' g'=>St (·<g) H0 [(g+1+0,.cells [.i v.2.1,.i v.2.2.1,.i v.2.2.2.1,.i v.2.2.2.2.1,.i v.2.2.2.2.2.1,.i v.2.2.2.2.2.2.1,.i v.2.2.2.2.2.2.2.1,.i v.2.2.2.2.2.2.2.2.1,.i v.2.2.2.2.2.2.2.2.2.1,.i v.2.2.2.2.2.2.2.2.2.2]),(g+0,.cells [.i 0,.i 0,.i 0,.i 0,.i 0,.i 0,.i 0,.i 0,.i 0,.i 0])] H' g'/\zcS a0 m5 v.1 v.2.1 v.2.2.1 v.2.2.2.1 v.2.2.2.2.1 v.2.2.2.2.2.1 v.2.2.2.2.2.2.1 v.2.2.2.2.2.2.2.1 v.2.2.2.2.2.2.2.2.1 v.2.2.2.2.2.2.2.2.2.1 v.2.2.2.2.2.2.2.2.2.2=some r) (n:=n) (0,v11,v12,v13,v14,v15,v16,v17,v18,v19,v20) (.k (.k (.k (.k (.k .nil))))) ⟨(hS.keep [true,true] rfl).up (by omega),hM⟩ ?_
    rintro ⟨v32,v33,v34,v35,v36,v37,v38,v39,v40,v41,v42⟩ m5 H g5 ⟨hS,hM⟩
    obtain _ | m5:=m5
    ·exact nomatch (show none=some _ from hM)
    change wpA _ _ _ _ (Fr.of [(2,.ptr (g+0) 0),(3,.ptr (g+1+0) 0),(43,.sl .no 3 (a0.map WireFault.cells)),(44,.i (a0.length:Int)),(45,.i v32)]) _ _
    replace hS:St (·<g) H0 [(g+1+0,.cells [.i v33,.i v34,.i v35,.i v36,.i v37,.i v38,.i v39,.i v40,.i v41,.i v42]),(g+0,.cells [.i 0,.i 0,.i 0,.i 0,.i 0,.i 0,.i 0,.i 0,.i 0,.i 0])] H g5:=hS
    replace hM:zfo a0 (zcS a0 m5) v32 v33 v34 v35 v36 v37 v38 v39 v40 v41 v42=some r:=hM
    refine Sq ?_
    refine Rg 1 ?_
    refine Oi (.b (decide (v32<(a0.length:Int)))) ?_
    refine Ni ?_
    refine Ws ?_
    refine Sq ?_
    rcases bft (decide (v32<(a0.length:Int))) with hb43 | hb43
    ·replace hM:=ifT hM hb43
     refine Ct hb43 ?_
     refine zas ?_
     refine Ws ?_
     refine zaF (J:=Int×Int×Int×Int×Int×Int×Int×Int×Int×Int) (fun j=>[(2,.ptr (g+0) 0),(3,.ptr (g+1+0) 0),(43,.sl .no 3 (a0.map WireFault.cells)),(44,.i (a0.length:Int)),(45,.i v32)]) (fun j H' g'=>St (·<g) H0 [(g+1+0,.cells [.i j.1,.i j.2.1,.i j.2.2.1,.i j.2.2.2.1,.i j.2.2.2.2.1,.i j.2.2.2.2.2.1,.i j.2.2.2.2.2.2.1,.i j.2.2.2.2.2.2.2.1,.i j.2.2.2.2.2.2.2.2.1,.i j.2.2.2.2.2.2.2.2.2]),(g+0,.cells [.i 0,.i 0,.i 0,.i 0,.i 0,.i 0,.i 0,.i 0,.i 0,.i 0])] H' g'/\zdm (zcS a0 m5) v32 j.1 j.2.1 j.2.2.1 j.2.2.2.1 j.2.2.2.2.1 j.2.2.2.2.2.1 j.2.2.2.2.2.2.1 j.2.2.2.2.2.2.2.1 j.2.2.2.2.2.2.2.2.1 j.2.2.2.2.2.2.2.2.2=some r) ?_ ?_
     ·rintro ⟨v44,v45,v46,v47,v48,v49,v50,v51,v52,v53⟩ H g6 ⟨hS,hM⟩
      change wpA _ _ _ _ (Fr.of [(2,.ptr (g+0) 0),(3,.ptr (g+1+0) 0),(43,.sl .no 3 (a0.map WireFault.cells)),(44,.i (a0.length:Int)),(45,.i v32)]) _ _
      replace hS:St (·<g) H0 [(g+1+0,.cells [.i v44,.i v45,.i v46,.i v47,.i v48,.i v49,.i v50,.i v51,.i v52,.i v53]),(g+0,.cells [.i 0,.i 0,.i 0,.i 0,.i 0,.i 0,.i 0,.i 0,.i 0,.i 0])] H g6:=hS
      replace hM:zdm (zcS a0 m5) v32 v44 v45 v46 v47 v48 v49 v50 v51 v52 v53=some r:=hM
      refine Rg 2 ?_
      refine Oi (.i (w64 (v32+1))) ?_
      refine Om (.i (w64 (v32+1))) ?_
      refine Ni ?_
      exact za4 (w64 (v32+1),v44,v45,v46,v47,v48,v49,v50,v51,v52,v53) (Nat.lt_succ_self _) (.k (.k (.k (.k (.k .nil))))) ⟨(hS.keep [true,true] rfl).up (by omega),hM⟩
     ·refine zap ?_
      refine Sq ?_
      refine Rg 4 ?_
      obtain ⟨x54,hx54,hM⟩:=zal hM
      refine zbj (xs:=a0) (f:=WireFault.cells) (z:=v32) (u:=x54) (by decide) rfl rfl zbH hx54 ?_
      refine Olg (.agg (WireFault.cells x54)) zbU ?_
      refine zcj hS (by decide) zdI (by omega) fun H hS=>?_
      refine zaK (v:=.agg (WireFault.cells x54)) (ns:=(WireFault.cells x54)) (L':=[(g5+1+2,.cells (WireFault.cells x54)),(g+1+0,.cells [.i v33,.i v34,.i v35,.i v36,.i v37,.i v38,.i v39,.i v40,.i v41,.i v42]),(g+0,.cells [.i 0,.i 0,.i 0,.i 0,.i 0,.i 0,.i 0,.i 0,.i 0,.i 0])]) 0 hS rfl rfl .no rfl rfl zjs nlb rfl fun H hS=>?_
      refine Ni ?_
      refine zaT (L':=[(g+1+0,.cells [.i v33,.i v34,.i v35,.i v36,.i v37,.i v38,.i v39,.i v40,.i v41,.i v42]),(g+0,.cells [.i 0,.i 0,.i 0,.i 0,.i 0,.i 0,.i 0,.i 0,.i 0,.i 0])]) 0 9 hS rfl rfl rfl fun H hS=>?_
      refine Ws ?_
      refine Sq ?_
      refine Rg 2 ?_
      refine Of ((WireFault.cells x54)) zeu ?_
      refine Olp (.i x54.Kind) zac zah ?_
      refine Ni ?_
      refine Ws ?_
      refine zap ?_
      refine Sq ?_
      refine Rg 2 ?_
      refine Oi (.b (x54.Kind==1)) ?_
      refine Oa (.b (x54.Kind==1)) ?_
      refine Ni ?_
      refine Ws ?_
      rcases bft (x54.Kind==1) with hb55 | hb55
      ·replace hM:=ifT hM hb55
       refine Ct hb55 ?_
       refine Rg 5 ?_
       refine Of ((WireFault.cells x54)) zcO ?_
       refine Olp (.i x54.A) zac zah ?_
       refine zaJ (by decide) zjz rfl ?_
       obtain ⟨x56,hx56,hM⟩:=zal hM
       refine ziF (z:=x54.A) (by decide) rfl rfl zhk (ziQ hx56) ?_
       obtain ⟨l57,hl57,hM⟩:=zal hM
       refine zkA (xs:=([v33,v34,v35,v36,v37]:List Int)) (u:=l57) (z:=x54.A) (v:=(-1)) (off:=0+0) (cs':=[.i (l57.getD 0 0),.i (l57.getD 1 0),.i (l57.getD 2 0),.i (l57.getD 3 0),.i (l57.getD 4 0),.i v38,.i v39,.i v40,.i v41,.i v42]) (L':=[(g+1+0,.cells [.i (l57.getD 0 0),.i (l57.getD 1 0),.i (l57.getD 2 0),.i (l57.getD 3 0),.i (l57.getD 4 0),.i v38,.i v39,.i v40,.i v41,.i v42]),(g+0,.cells [.i 0,.i 0,.i 0,.i 0,.i 0,.i 0,.i 0,.i 0,.i 0,.i 0])]) 0 hS rfl rfl .no rfl rfl hl57 zfs rfl rfl fun H hS=>?_
       refine Ni ?_
       refine zae ?_
       refine zae ?_
       exact zai ((l57.getD 0 0),(l57.getD 1 0),(l57.getD 2 0),(l57.getD 3 0),(l57.getD 4 0),v38,v39,v40,v41,v42) (.k (.k (.k (.k (.k .nil))))) ⟨(hS.keep [true,true] rfl).up (by omega),hM⟩
      ·replace hM:=ifF hM hb55
       refine Cf hb55 ?_
       refine Sq ?_
       refine Rg 2 ?_
       refine Oi (.b (x54.Kind==2)) ?_
       refine Oa (.b (x54.Kind==2)) ?_
       refine Ni ?_
       refine Ws ?_
       rcases bft (x54.Kind==2) with hb58 | hb58
       ·replace hM:=ifT hM hb58
        refine Ct hb58 ?_
        refine Rg 5 ?_
        refine Of ((WireFault.cells x54)) zcO ?_
        refine Olp (.i x54.A) zac zah ?_
        refine zaJ (by decide) zjA rfl ?_
        obtain ⟨x59,hx59,hM⟩:=zal hM
        refine ziF (z:=x54.A) (by decide) rfl rfl zhk (ziQ hx59) ?_
        obtain ⟨l60,hl60,hM⟩:=zal hM
        refine zkA (xs:=([v38,v39,v40,v41,v42]:List Int)) (u:=l60) (z:=x54.A) (v:=(-1)) (off:=0+5) (cs':=[.i v33,.i v34,.i v35,.i v36,.i v37,.i (l60.getD 0 0),.i (l60.getD 1 0),.i (l60.getD 2 0),.i (l60.getD 3 0),.i (l60.getD 4 0)]) (L':=[(g+1+0,.cells [.i v33,.i v34,.i v35,.i v36,.i v37,.i (l60.getD 0 0),.i (l60.getD 1 0),.i (l60.getD 2 0),.i (l60.getD 3 0),.i (l60.getD 4 0)]),(g+0,.cells [.i 0,.i 0,.i 0,.i 0,.i 0,.i 0,.i 0,.i 0,.i 0,.i 0])]) 0 hS rfl rfl .no rfl rfl hl60 zfs rfl rfl fun H hS=>?_
        refine Ni ?_
        refine zae ?_
        refine zae ?_
        exact zai (v33,v34,v35,v36,v37,(l60.getD 0 0),(l60.getD 1 0),(l60.getD 2 0),(l60.getD 3 0),(l60.getD 4 0)) (.k (.k (.k (.k (.k .nil))))) ⟨(hS.keep [true,true] rfl).up (by omega),hM⟩
       ·replace hM:=ifF hM hb58
        refine Cf hb58 ?_
        refine zas ?_
        refine zae ?_
        refine zae ?_
        exact zai (v33,v34,v35,v36,v37,v38,v39,v40,v41,v42) (.k (.k (.k (.k (.k .nil))))) ⟨(hS.keep [true,true] rfl).up (by omega),hM⟩
    ·replace hM:=ifF hM hb43
     refine Cf hb43 ?_
     refine zbw ?_
     refine zar ?_
     refine zao ?_
     refine zaw ?_
     exact zai (v33,v34,v35,v36,v37,v38,v39,v40,v41,v42) (.k (.k .nil)) ⟨(hS.keep [true,true] rfl).up (by omega),hM⟩
  ·refine Sq ?_
   refine Rg 3 ?_
   refine Om (.sl .no 3 (a0.map WireFault.cells)) ?_
   refine zco (n:=a0.length) (by decide) rfl (List.length_map _) zeK ?_
   refine Om (.i 0) ?_
   refine Ni ?_
   refine Ws ?_
   refine zap ?_
   refine zbI (V:=Int×Int×Int×Int×Int×Int×Int×Int×Int×Int×Int) (fun v=>[(0,.sl .no 3 (a0.map WireFault.cells)),(2,.ptr (g+0) 0),(3,.ptr (g+1+0) 0),(5,.fn (.func 64) [] []),(22,.sl .no 3 (a0.map WireFault.cells)),(23,.i (a0.length:Int)),(24,.i v.1)]) (fun v m8 H' g'=>St (·<g) H0 [(g+1+0,.cells [.i v.2.1,.i v.2.2.1,.i v.2.2.2.1,.i v.2.2.2.2.1,.i v.2.2.2.2.2.1,.i v.2.2.2.2.2.2.1,.i v.2.2.2.2.2.2.2.1,.i v.2.2.2.2.2.2.2.2.1,.i v.2.2.2.2.2.2.2.2.2.1,.i v.2.2.2.2.2.2.2.2.2.2]),(g+0,.cells [.i 0,.i 0,.i 0,.i 0,.i 0,.i 0,.i 0,.i 0,.i 0,.i 0])] H' g'/\zcT n a0 m8 v.1 v.2.1 v.2.2.1 v.2.2.2.1 v.2.2.2.2.1 v.2.2.2.2.2.1 v.2.2.2.2.2.2.1 v.2.2.2.2.2.2.2.1 v.2.2.2.2.2.2.2.2.1 v.2.2.2.2.2.2.2.2.2.1 v.2.2.2.2.2.2.2.2.2.2=some r) (n:=n) (0,v1,v2,v3,v4,v5,v6,v7,v8,v9,v10) (.k (.k (.k (.k (.k (.k (.k .nil))))))) ⟨(hS.keep [true,true] rfl).up (by omega),hM⟩ ?_
   rintro ⟨v62,v63,v64,v65,v66,v67,v68,v69,v70,v71,v72⟩ m8 H g8 ⟨hS,hM⟩
   obtain _ | m8:=m8
   ·exact nomatch (show none=some _ from hM)
   change wpA _ _ _ _ (Fr.of [(0,.sl .no 3 (a0.map WireFault.cells)),(2,.ptr (g+0) 0),(3,.ptr (g+1+0) 0),(5,.fn (.func 64) [] []),(22,.sl .no 3 (a0.map WireFault.cells)),(23,.i (a0.length:Int)),(24,.i v62)]) _ _
   replace hS:St (·<g) H0 [(g+1+0,.cells [.i v63,.i v64,.i v65,.i v66,.i v67,.i v68,.i v69,.i v70,.i v71,.i v72]),(g+0,.cells [.i 0,.i 0,.i 0,.i 0,.i 0,.i 0,.i 0,.i 0,.i 0,.i 0])] H g8:=hS
   replace hM:zfq n a0 (zcT n a0 m8) v62 v63 v64 v65 v66 v67 v68 v69 v70 v71 v72=some r:=hM
   refine Sq ?_
   refine Rg 1 ?_
   refine Oi (.b (decide (v62<(a0.length:Int)))) ?_
   refine Ni ?_
   refine Ws ?_
   refine Sq ?_
   rcases bft (decide (v62<(a0.length:Int))) with hb73 | hb73
   ·replace hM:=ifT hM hb73
    refine Ct hb73 ?_
    refine zas ?_
    refine Ws ?_
    refine zaF (J:=Int×Int×Int×Int×Int×Int×Int×Int×Int×Int) (fun j=>[(0,.sl .no 3 (a0.map WireFault.cells)),(2,.ptr (g+0) 0),(3,.ptr (g+1+0) 0),(5,.fn (.func 64) [] []),(22,.sl .no 3 (a0.map WireFault.cells)),(23,.i (a0.length:Int)),(24,.i v62)]) (fun j H' g'=>St (·<g) H0 [(g+1+0,.cells [.i j.1,.i j.2.1,.i j.2.2.1,.i j.2.2.2.1,.i j.2.2.2.2.1,.i j.2.2.2.2.2.1,.i j.2.2.2.2.2.2.1,.i j.2.2.2.2.2.2.2.1,.i j.2.2.2.2.2.2.2.2.1,.i j.2.2.2.2.2.2.2.2.2]),(g+0,.cells [.i 0,.i 0,.i 0,.i 0,.i 0,.i 0,.i 0,.i 0,.i 0,.i 0])] H' g'/\zdn (zcT n a0 m8) v62 j.1 j.2.1 j.2.2.1 j.2.2.2.1 j.2.2.2.2.1 j.2.2.2.2.2.1 j.2.2.2.2.2.2.1 j.2.2.2.2.2.2.2.1 j.2.2.2.2.2.2.2.2.1 j.2.2.2.2.2.2.2.2.2=some r) ?_ ?_
    ·rintro ⟨v74,v75,v76,v77,v78,v79,v80,v81,v82,v83⟩ H g9 ⟨hS,hM⟩
     change wpA _ _ _ _ (Fr.of [(0,.sl .no 3 (a0.map WireFault.cells)),(2,.ptr (g+0) 0),(3,.ptr (g+1+0) 0),(5,.fn (.func 64) [] []),(22,.sl .no 3 (a0.map WireFault.cells)),(23,.i (a0.length:Int)),(24,.i v62)]) _ _
     replace hS:St (·<g) H0 [(g+1+0,.cells [.i v74,.i v75,.i v76,.i v77,.i v78,.i v79,.i v80,.i v81,.i v82,.i v83]),(g+0,.cells [.i 0,.i 0,.i 0,.i 0,.i 0,.i 0,.i 0,.i 0,.i 0,.i 0])] H g9:=hS
     replace hM:zdn (zcT n a0 m8) v62 v74 v75 v76 v77 v78 v79 v80 v81 v82 v83=some r:=hM
     refine Rg 2 ?_
     refine Oi (.i (w64 (v62+1))) ?_
     refine Om (.i (w64 (v62+1))) ?_
     refine Ni ?_
     exact za4 (w64 (v62+1),v74,v75,v76,v77,v78,v79,v80,v81,v82,v83) (Nat.lt_succ_self _) (.k (.k (.k (.k (.k (.k (.k .nil))))))) ⟨(hS.keep [true,true] rfl).up (by omega),hM⟩
    ·refine zap ?_
     refine Sq ?_
     refine Rg 4 ?_
     obtain ⟨x84,hx84,hM⟩:=zal hM
     refine zbj (xs:=a0) (f:=WireFault.cells) (z:=v62) (u:=x84) (by decide) rfl rfl zbH hx84 ?_
     refine Olg (.agg (WireFault.cells x84)) zbU ?_
     refine zcj hS (by decide) zdI (by omega) fun H hS=>?_
     refine zaK (v:=.agg (WireFault.cells x84)) (ns:=(WireFault.cells x84)) (L':=[(g8+1+2,.cells (WireFault.cells x84)),(g+1+0,.cells [.i v63,.i v64,.i v65,.i v66,.i v67,.i v68,.i v69,.i v70,.i v71,.i v72]),(g+0,.cells [.i 0,.i 0,.i 0,.i 0,.i 0,.i 0,.i 0,.i 0,.i 0,.i 0])]) 0 hS rfl rfl .no rfl rfl zjs nlb rfl fun H hS=>?_
     refine Ni ?_
     refine zaT (L':=[(g+1+0,.cells [.i v63,.i v64,.i v65,.i v66,.i v67,.i v68,.i v69,.i v70,.i v71,.i v72]),(g+0,.cells [.i 0,.i 0,.i 0,.i 0,.i 0,.i 0,.i 0,.i 0,.i 0,.i 0])]) 0 7 hS rfl rfl rfl fun H hS=>?_
     refine Ws ?_
     refine Sq ?_
     refine Rg 2 ?_
     refine Of ((WireFault.cells x84)) zeu ?_
     refine Olp (.i x84.Kind) zac zah ?_
     refine Ni ?_
     refine Ws ?_
     refine zap ?_
     refine Sq ?_
     refine Rg 2 ?_
     refine Oi (.b (x84.Kind==3)) ?_
     refine Oa (.b (x84.Kind==3)) ?_
     refine Ni ?_
     refine Ws ?_
     rcases bft (x84.Kind==3) with hb85 | hb85
     ·replace hM:=ifT hM hb85
      refine Ct hb85 ?_
      refine Rg 4 ?_
      refine Om (.fn (.func 64) [] []) ?_
      refine zaJ (by decide) zjz rfl ?_
      refine Olg (.agg (WireFault.cells x84)) zbU ?_
      obtain ⟨l86,hl86,hM⟩:=zal hM
      refine zvf (bs:=[.ptr (g+1+0) (0+0),.agg (WireFault.cells x84)]) (L':=[(g+1+0,.cells [.i (l86.getD 0 0),.i (l86.getD 1 0),.i (l86.getD 2 0),.i (l86.getD 3 0),.i (l86.getD 4 0),.i (l86.getD 5 0),.i (l86.getD 6 0),.i (l86.getD 7 0),.i (l86.getD 8 0),.i (l86.getD 9 0)]),(g+0,.cells [.i 0,.i 0,.i 0,.i 0,.i 0,.i 0,.i 0,.i 0,.i 0,.i 0])]) 0 hS (by decide) rfl rfl rfl ztG (ziy (p:=g+1+0) hl86) rfl fun H hS=>?_
      refine Ni ?_
      refine zae ?_
      refine zae ?_
      exact zai ((l86.getD 0 0),(l86.getD 1 0),(l86.getD 2 0),(l86.getD 3 0),(l86.getD 4 0),(l86.getD 5 0),(l86.getD 6 0),(l86.getD 7 0),(l86.getD 8 0),(l86.getD 9 0)) (.k (.k (.k (.k (.k (.k (.k .nil))))))) ⟨(hS.keep [true,true] rfl).up (by omega),hM⟩
     ·replace hM:=ifF hM hb85
      refine Cf hb85 ?_
      refine Sq ?_
      refine Rg 2 ?_
      refine Oi (.b (x84.Kind==4)) ?_
      refine Oa (.b (x84.Kind==4)) ?_
      refine Ni ?_
      refine Ws ?_
      rcases bft (x84.Kind==4) with hb87 | hb87
      ·replace hM:=ifT hM hb87
       refine Ct hb87 ?_
       refine Rg 4 ?_
       refine Om (.fn (.func 64) [] []) ?_
       refine zaJ (by decide) zjA rfl ?_
       refine Olg (.agg (WireFault.cells x84)) zbU ?_
       obtain ⟨l88,hl88,hM⟩:=zal hM
       refine zvf (bs:=[.ptr (g+1+0) (0+5),.agg (WireFault.cells x84)]) (L':=[(g+1+0,.cells [.i (l88.getD 0 0),.i (l88.getD 1 0),.i (l88.getD 2 0),.i (l88.getD 3 0),.i (l88.getD 4 0),.i (l88.getD 5 0),.i (l88.getD 6 0),.i (l88.getD 7 0),.i (l88.getD 8 0),.i (l88.getD 9 0)]),(g+0,.cells [.i 0,.i 0,.i 0,.i 0,.i 0,.i 0,.i 0,.i 0,.i 0,.i 0])]) 0 hS (by decide) rfl rfl rfl ztG (ziy (p:=g+1+0) hl88) rfl fun H hS=>?_
       refine Ni ?_
       refine zae ?_
       refine zae ?_
       exact zai ((l88.getD 0 0),(l88.getD 1 0),(l88.getD 2 0),(l88.getD 3 0),(l88.getD 4 0),(l88.getD 5 0),(l88.getD 6 0),(l88.getD 7 0),(l88.getD 8 0),(l88.getD 9 0)) (.k (.k (.k (.k (.k (.k (.k .nil))))))) ⟨(hS.keep [true,true] rfl).up (by omega),hM⟩
      ·replace hM:=ifF hM hb87
       refine Cf hb87 ?_
       refine zas ?_
       refine zae ?_
       refine zae ?_
       exact zai (v63,v64,v65,v66,v67,v68,v69,v70,v71,v72) (.k (.k (.k (.k (.k (.k (.k .nil))))))) ⟨(hS.keep [true,true] rfl).up (by omega),hM⟩
   ·replace hM:=ifF hM hb73
    refine Cf hb73 ?_
    refine zbw ?_
    refine zar ?_
    refine zao ?_
    refine zaw ?_
    exact zai (v63,v64,v65,v66,v67,v68,v69,v70,v71,v72) (.k (.k (.k .nil))) ⟨(hS.keep [true,true] rfl).up (by omega),hM⟩
 ·refine Sq ?_
  refine Rg 1 ?_
  refine Om (.i 0) ?_
  refine Ni ?_
  refine Ws ?_
  refine zap ?_
  refine zbI (V:=Int×Int×Int×Int×Int×Int×Int×Int×Int×Int×Int) (fun v=>[(0,.sl .no 3 (a0.map WireFault.cells)),(2,.ptr (g+0) 0),(3,.ptr (g+1+0) 0),(10,.i v.1)]) (fun v m11 H' g'=>St (·<g) H0 [(g+1+0,.cells [.i v.2.1,.i v.2.2.1,.i v.2.2.2.1,.i v.2.2.2.2.1,.i v.2.2.2.2.2.1,.i v.2.2.2.2.2.2.1,.i v.2.2.2.2.2.2.2.1,.i v.2.2.2.2.2.2.2.2.1,.i v.2.2.2.2.2.2.2.2.2.1,.i v.2.2.2.2.2.2.2.2.2.2]),(g+0,.cells [.i 0,.i 0,.i 0,.i 0,.i 0,.i 0,.i 0,.i 0,.i 0,.i 0])] H' g'/\zgx n a0 m11 v.1 v.2.1 v.2.2.1 v.2.2.2.1 v.2.2.2.2.1 v.2.2.2.2.2.1 v.2.2.2.2.2.2.1 v.2.2.2.2.2.2.2.1 v.2.2.2.2.2.2.2.2.1 v.2.2.2.2.2.2.2.2.2.1 v.2.2.2.2.2.2.2.2.2.2=some r) (n:=n) (0,0,0,0,0,0,0,0,0,0,0) (.k (.k (.k (.k .nil)))) ⟨(hS.keep [true,true] rfl).up (by omega),hM⟩ ?_
  rintro ⟨v90,v91,v92,v93,v94,v95,v96,v97,v98,v99,v100⟩ m11 H g11 ⟨hS,hM⟩
  obtain _ | m11:=m11
  ·exact nomatch (show none=some _ from hM)
  change wpA _ _ _ _ (Fr.of [(0,.sl .no 3 (a0.map WireFault.cells)),(2,.ptr (g+0) 0),(3,.ptr (g+1+0) 0),(10,.i v90)]) _ _
  replace hS:St (·<g) H0 [(g+1+0,.cells [.i v91,.i v92,.i v93,.i v94,.i v95,.i v96,.i v97,.i v98,.i v99,.i v100]),(g+0,.cells [.i 0,.i 0,.i 0,.i 0,.i 0,.i 0,.i 0,.i 0,.i 0,.i 0])] H g11:=hS
  replace hM:zin n a0 (zgx n a0 m11) v90 v91 v92 v93 v94 v95 v96 v97 v98 v99 v100=some r:=hM
  refine Sq ?_
  refine Rg 1 ?_
  refine Oi (.b (decide (v90<5))) ?_
  refine Ni ?_
  refine Ws ?_
  refine Sq ?_
  rcases bft (decide (v90<5)) with hb101 | hb101
  ·replace hM:=ifT hM hb101
   refine Ct hb101 ?_
   refine zas ?_
   refine Ws ?_
   refine Sq ?_
   refine zap ?_
   refine Sq ?_
   refine Rg 2 ?_
   refine Om (.i v90) ?_
   refine Oa (.i v90) ?_
   refine Ni ?_
   refine Ws ?_
   refine Rg 10 ?_
   refine Om (.i v90) ?_
   refine Om (.i v90) ?_
   refine Om (.i v90) ?_
   refine Om (.i v90) ?_
   refine zaJ (by decide) zjz rfl ?_
   obtain ⟨x102,hx102,hM⟩:=zal hM
   refine ziF (z:=v90) (by decide) rfl rfl zhk (ziQ hx102) ?_
   obtain ⟨l103,hl103,hM⟩:=zal hM
   refine zkA (xs:=([v91,v92,v93,v94,v95]:List Int)) (u:=l103) (z:=v90) (v:=v90) (off:=0+0) (cs':=[.i (l103.getD 0 0),.i (l103.getD 1 0),.i (l103.getD 2 0),.i (l103.getD 3 0),.i (l103.getD 4 0),.i v96,.i v97,.i v98,.i v99,.i v100]) (L':=[(g+1+0,.cells [.i (l103.getD 0 0),.i (l103.getD 1 0),.i (l103.getD 2 0),.i (l103.getD 3 0),.i (l103.getD 4 0),.i v96,.i v97,.i v98,.i v99,.i v100]),(g+0,.cells [.i 0,.i 0,.i 0,.i 0,.i 0,.i 0,.i 0,.i 0,.i 0,.i 0])]) 0 hS rfl rfl .no rfl rfl hl103 zfs rfl rfl fun H hS=>?_
   refine zaJ (by decide) zjA rfl ?_
   obtain ⟨x104,hx104,hM⟩:=zal hM
   refine ziF (z:=v90) (by decide) rfl rfl zhk (ziQ hx104) ?_
   obtain ⟨l105,hl105,hM⟩:=zal hM
   refine zkA (xs:=([v96,v97,v98,v99,v100]:List Int)) (u:=l105) (z:=v90) (v:=v90) (off:=0+5) (cs':=[.i (l103.getD 0 0),.i (l103.getD 1 0),.i (l103.getD 2 0),.i (l103.getD 3 0),.i (l103.getD 4 0),.i (l105.getD 0 0),.i (l105.getD 1 0),.i (l105.getD 2 0),.i (l105.getD 3 0),.i (l105.getD 4 0)]) (L':=[(g+1+0,.cells [.i (l103.getD 0 0),.i (l103.getD 1 0),.i (l103.getD 2 0),.i (l103.getD 3 0),.i (l103.getD 4 0),.i (l105.getD 0 0),.i (l105.getD 1 0),.i (l105.getD 2 0),.i (l105.getD 3 0),.i (l105.getD 4 0)]),(g+0,.cells [.i 0,.i 0,.i 0,.i 0,.i 0,.i 0,.i 0,.i 0,.i 0,.i 0])]) 0 hS rfl rfl .no rfl rfl hl105 zfs rfl rfl fun H hS=>?_
   refine Ni ?_
   refine zae ?_
   refine Ws ?_
   refine Rg 2 ?_
   refine Oi (.i (w64 (v90+1))) ?_
   refine Om (.i (w64 (v90+1))) ?_
   refine Ni ?_
   exact za4 (w64 (v90+1),(l103.getD 0 0),(l103.getD 1 0),(l103.getD 2 0),(l103.getD 3 0),(l103.getD 4 0),(l105.getD 0 0),(l105.getD 1 0),(l105.getD 2 0),(l105.getD 3 0),(l105.getD 4 0)) (Nat.lt_succ_self _) (.k (.k (.k (.k .nil)))) ⟨(hS.keep [true,true] rfl).up (by omega),hM⟩
  ·replace hM:=ifF hM hb101
   refine Cf hb101 ?_
   refine zbw ?_
   refine zar ?_
   refine zao ?_
   refine zaw ?_
   exact zai (v91,v92,v93,v94,v95,v96,v97,v98,v99,v100) (.k (.k (.k .nil))) ⟨(hS.keep [true,true] rfl).up (by omega),hM⟩
theorem zjI {n:Nat} {a0:Wire} {a1:List WireFault} {a2:Int} {a3:Int} {r:Int×Int} (hM:zfK n a0 a1 a2 a3=some r):zav Tryz.prog 10 [.agg (Wire.cells a0),.sl .no 3 (a1.map WireFault.cells),.i a2,.i a3] (.tup [.i r.1,.i r.2]):=by
 refine zan mixed Tryz.func10 rfl (by decide) Tryz.ntmps10 (by simp) ?pure fun H0 g hf=>?_
 case pure=>exact .tup _ (zaa (.v _) (zaa (.v _) zaC))
 rw [zag]
 change wpA _ _ _ _ (Fr.of [(0,.agg (Wire.cells a0)),(1,.sl .no 3 (a1.map WireFault.cells)),(2,.i a2),(3,.i a3)]) H0 g
 have hS:=St.start hf
 refine Sq ?_
 refine Rg 3 ?_
 refine zbP (v:=.agg (Wire.cells a0)) (cs:=(Wire.cells a0)) hS (by decide) rfl rfl (by omega) fun H hS=>?_
 refine Oa (.i 0) ?_
 refine Oa (.i 0) ?_
 refine Ni ?_
 refine zaT (L':=[]) 0 4 hS rfl rfl rfl fun H hS=>?_
 refine Ws ?_
 refine Sq ?_
 refine Sq ?_
 refine Rg 3 ?_
 refine Olg (.agg (Wire.cells a0)) zcd ?_
 obtain ⟨r1,hr1,hM⟩:=zal hM
 refine zat (bs:=[.agg (Wire.cells a0)]) (by decide) rfl rfl ((zhY hr1).le (.k .nil)) ?_
 refine Oa (.i r1) ?_
 refine Ni ?_
 refine Ws ?_
 refine Sq ?_
 refine Rg 2 ?_
 refine Om (.i r1) ?_
 refine Oi (.b (r1 != 0)) ?_
 refine Ni ?_
 refine Ws ?_
 rcases bft (r1 != 0) with hb2 | hb2
 ·replace hM:=ifT hM hb2
  refine Ct hb2 ?_
  refine Sq ?_
  refine Rg 3 ?_
  refine Om (.i r1) ?_
  refine Oa (.i 0) ?_
  refine Oa (.i r1) ?_
  refine Ni ?_
  refine Ws ?_
  refine zaB ?_
  refine zak ?_
  refine zaO (x:=.tup [.i 0,.i r1]) (f:=fun r=>.tup [.i r.1,.i r.2]) (.inr rfl) ?_ (.refl _) (Option.some.inj hM) hS
  exact (zbn (zad (x:=.i 0) rfl) (zad (x:=.i r1) rfl))
 ·replace hM:=ifF hM hb2
  refine Cf hb2 ?_
  refine zas ?_
  refine Ws ?_
  refine Sq ?_
  refine Rg 3 ?_
  refine Olg (.agg (Wire.cells a0)) zcd ?_
  obtain ⟨r3,hr3,hM⟩:=zal hM
  refine zat (bs:=[.agg (Wire.cells a0)]) (by decide) rfl rfl ((ziw hr3).le (.k .nil)) ?_
  refine Oa (pA Wiring_.cells r3) ?_
  refine Ni ?_
  refine Ws ?_
  refine Sq ?_
  refine zaF (J:=Bool) (fun j=>[(1,.sl .no 3 (a1.map WireFault.cells)),(2,.i a2),(3,.i a3),(11,pA Wiring_.cells r3),(29,.b j)]) (fun j H' g'=>St (·<g) H0 [] H' g'/\zd0 n a1 a2 a3 r3 j=some r) ?_ ?_
  ·rintro v4 H g1 ⟨hS,hM⟩
   change wpA _ _ _ _ (Fr.of [(1,.sl .no 3 (a1.map WireFault.cells)),(2,.i a2),(3,.i a3),(11,pA Wiring_.cells r3),(29,.b v4)]) _ _
   replace hS:St (·<g) H0 [] H g1:=hS
   replace hM:zd0 n a1 a2 a3 r3 v4=some r:=hM
   rcases bft v4 with hb5 | hb5
   ·replace hM:=ifT hM hb5
    refine Ct hb5 ?_
    refine Sq ?_
    refine Rg 2 ?_
    refine Oa (.i 0) ?_
    refine Oa (.i 1) ?_
    refine Ni ?_
    refine Ws ?_
    refine zaB ?_
    refine zak ?_
    refine zaO (x:=.tup [.i 0,.i 1]) (f:=fun r=>.tup [.i r.1,.i r.2]) (.inr rfl) ?_ (.refl _) (Option.some.inj hM) hS
    exact (zbn (zad (x:=.i 0) rfl) (zad (x:=.i 1) rfl))
   ·replace hM:=ifF hM hb5
    refine Cf hb5 ?_
    refine zas ?_
    refine Ws ?_
    refine Sq ?_
    refine Rg 8 ?_
    refine Om (pA Wiring_.cells r3) ?_
    refine Om (.sl .no 3 (a1.map WireFault.cells)) ?_
    obtain ⟨r6,hr6,hM⟩:=zal hM
    refine zat (bs:=[.sl .no 3 (a1.map WireFault.cells)]) (by decide) rfl rfl ((ziz hr6).le (.k .nil)) ?_
    refine Om (.i a2) ?_
    refine Om (.i a3) ?_
    obtain ⟨r7,hr7,hM⟩:=zal hM
    refine zat (bs:=[pA Wiring_.cells r3,.agg (Panel_.cells r6),.i a2,.i a3]) (by decide) rfl rfl ((zeN hr7).le (.k (.k (.k (.k .nil))))) ?_
    refine Oa (.i r7) ?_
    refine Oa (.i 0) ?_
    refine Ni ?_
    refine Ws ?_
    refine zaB ?_
    refine zaO (x:=.tup [.i r7,.i 0]) (f:=fun r=>.tup [.i r.1,.i r.2]) (.inr rfl) ?_ (.refl _) (Option.some.inj hM) hS
    exact (zbn (zad (x:=.i r7) rfl) (zad (x:=.i 0) rfl))
  ·refine Rg 11 ?_
   refine Om (pA Wiring_.cells r3) ?_
   refine Om (.sl .no 3 (a1.map WireFault.cells)) ?_
   obtain ⟨r8,hr8,hM⟩:=zal hM
   refine zat (bs:=[pA Wiring_.cells r3,.sl .no 3 (a1.map WireFault.cells)]) (by decide) rfl rfl ((zgj hr8).le (.k (.k .nil))) ?_
   refine zdc (e:=r8) (by decide) rfl ?_
   refine Om (.b (!r8)) ?_
   rcases bft (!r8) with hb9 | hb9
   ·replace hM:=ifT hM hb9
    refine On (want:=false) hb9 ?_
    refine On (want:=false) hb9 ?_
    refine On (want:=false) hb9 ?_
    refine On (want:=false) hb9 ?_
    refine On (want:=false) hb9 ?_
    refine Pt (.b true) hb9 ?_
    refine Ni ?_
    exact zai true (.k (.k (.k (.k (.k .nil))))) ⟨(hS.keep [] rfl).up (by omega),hM⟩
   ·replace hM:=ifF hM hb9
    refine Oy (want:=false) hb9 ?_
    refine Olg (.agg (Wire.cells a0)) zcd ?_
    refine Oy (want:=false) hb9 ?_
    refine Om (.i a2) ?_
    refine Oy (want:=false) hb9 ?_
    refine Om (.i a3) ?_
    refine Oy (want:=false) hb9 ?_
    obtain ⟨r10,hr10,hM⟩:=zal hM
    refine zat (bs:=[.agg (Wire.cells a0),.i a2,.i a3]) (by decide) rfl rfl ((zg0 hr10).le (.k (.k (.k .nil)))) ?_
    refine Oy (want:=false) hb9 ?_
    refine zdc (e:=r10) (by decide) rfl ?_
    refine Pf (.b (!r10)) hb9 ?_
    refine Ni ?_
    exact zai (!r10) (.k (.k (.k (.k (.k .nil))))) ⟨(hS.keep [] rfl).up (by omega),hM⟩
theorem zhb {a0:WirePress} {a1:Option Wiring_} {a2:Panel_} {r:Bool} (hM:zbZ a0 a1 a2=some r):zav Tryz.prog 77 [.agg (WirePress.cells a0),.ep [pA Wiring_.cells a1],.ep (Panel_.cells a2)] (.b r):=by
 refine zan mixed Tryz.func77 rfl (by decide) Tryz.ntmps77 (by simp) ?pure fun H0 g hf=>?_
 case pure=>exact .v _
 rw [zag]
 change wpA _ _ _ _ (Fr.of [(0,.agg (WirePress.cells a0)),(1,.ep [pA Wiring_.cells a1]),(2,.ep (Panel_.cells a2))]) H0 g
 have hS:=St.start hf
 refine Sq ?_
 refine Rg 2 ?_
 refine zbP (v:=.agg (WirePress.cells a0)) (cs:=(WirePress.cells a0)) hS (by decide) rfl rfl (by omega) fun H hS=>?_
 refine Oa (.b false) ?_
 refine Ni ?_
 refine zaT (L':=[]) 0 3 hS rfl rfl rfl fun H hS=>?_
 refine Ws ?_
 refine Sq ?_
 have hS0:=hS
 refine zdy (n:=11) rfl (by kernel_rfl) ?_
 refine Olp (pA Wiring_.cells a1) zfv zgW ?_
 refine Olg (.agg (Panel_.cells a2)) zmJ ?_
 refine Of ((WirePress.cells a0)) zjw ?_
 refine Olp (.i a0.Letter) zac zah ?_
 refine Of ((WirePress.cells a0)) zjx ?_
 refine Olp (.i a0.Number) zac zah ?_
 obtain ⟨r1,hr1,hM⟩:=zal hM
 refine zat (bs:=[pA Wiring_.cells a1,.agg (Panel_.cells a2),.i a0.Letter,.i a0.Number]) (by decide) rfl rfl ((zeN hr1).le (.k (.k (.k (.k .nil))))) ?_
 refine Of ((WirePress.cells a0)) zjy ?_
 refine Olp (.i a0.Got) zac zah ?_
 refine Oi (.b (r1 != a0.Got)) ?_
 refine Oa (.b (r1 != a0.Got)) ?_
 refine Ni ?_
 refine zej [(4,.b (r1 != a0.Got))] (.k .nil) ?_
 refine zaB ?_
 refine zaO (x:=.b (r1 != a0.Got)) (f:=fun r=>.b r) (.inr rfl) ?_ (.refl _) (Option.some.inj hM) hS
 exact (zam (zad (x:=.b (r1 != a0.Got)) rfl))
theorem zfy {n:Nat} {a0:Option Wiring_} {a1:List WireFault} {a2:List WirePress} {r:Bool} (hM:zcA n a0 a1 a2=some r):zav Tryz.prog 54 [pA Wiring_.cells a0,.sl .no 3 (a1.map WireFault.cells),.sl .no 3 (a2.map WirePress.cells)] (.b r):=by
 refine zan mixed Tryz.func54 rfl (by decide) Tryz.ntmps54 (by simp) ?pure fun H0 g hf=>?_
 case pure=>exact .v _
 rw [zag]
 change wpA _ _ _ _ (Fr.of [(0,pA Wiring_.cells a0),(1,.sl .no 3 (a1.map WireFault.cells)),(2,.sl .no 3 (a2.map WirePress.cells))]) H0 g
 have hS:=St.start hf
 refine Sq ?_
 refine Rg 2 ?_
 refine zbP (v:=pA Wiring_.cells a0) (cs:=[pA Wiring_.cells a0]) hS (by decide) rfl (ze6 _ _) (by omega) fun H hS=>?_
 refine Oa (.b false) ?_
 refine Ni ?_
 refine zaT (L':=[]) 0 3 hS rfl rfl rfl fun H hS=>?_
 refine Ws ?_
 refine Sq ?_
 refine Rg 4 ?_
 refine Om (.sl .no 3 (a1.map WireFault.cells)) ?_
 obtain ⟨r1,hr1,hM⟩:=zal hM
 refine zat (bs:=[.sl .no 3 (a1.map WireFault.cells)]) (by decide) rfl rfl ((ziz hr1).le (.k .nil)) ?_
 refine zcj hS (by decide) zlh (by omega) fun H hS=>?_
 refine zaK (v:=.agg (Panel_.cells r1)) (ns:=(Panel_.cells r1)) (L':=[(g+2+2,.cells (Panel_.cells r1))]) 0 hS rfl rfl .no rfl rfl zps nlb rfl fun H hS=>?_
 refine Ni ?_
 refine zaT (L':=[]) 0 7 hS rfl rfl rfl fun H hS=>?_
 refine Ws ?_
 refine Sq ?_
 refine Rg 5 ?_
 refine Om (.sl .no 3 (a2.map WirePress.cells)) ?_
 refine zce (first:=[]) (cap:=[.ep [pA Wiring_.cells a0],.ep (Panel_.cells r1)]) (by decide) rfl rfl ?_
 obtain ⟨r2,hr2,hM⟩:=zal hM
 refine zat (bs:=[.sl .no 3 (a2.map WirePress.cells),.fn (.func 77) [] [.ep [pA Wiring_.cells a0],.ep (Panel_.cells r1)]]) (by decide) rfl rfl (ze5 ((zc7 (Lo:=(fun (_:Unit)=>[]))  (fun _ _=>zd8) (fun _=>List.nodup_nil) (fun _=>zd3) (aF:=(fun (x0:WirePress) (_:Unit)=>(zbZ x0 a0 r1).map fun y=>(y,()))) (fun _ H hH=>(.fn _ _ _ zbV (zaM (.ep _ (zaM (show Go.AM.Pure _ from zhO (fun x=>(zaa (.v _) (zaa (.v _) (zaa (.sl _ _ (zau (fun x=>(zaa (.v _) (zaa (.v _) (zaa (.v _) zaC)))))) (zaa (.v _) (zaa (.sl _ _ (zau (fun x=>(zaa (.v _) (zaa (.v _) (zaa (.v _) zaC)))))) zaC)))))) _).inH zbV)) (zaM (.ep _ (zaM (show Go.AM.Pure _ from .v _).inH (zaM (show Go.AM.Pure _ from .v _).inH (zaM (show Go.AM.Pure _ from .v _).inH (zaM (show Go.AM.Pure _ from .v _).inH (zaM (show Go.AM.Pure _ from .v _).inH (zaM (show Go.AM.Pure _ from .v _).inH (zaM (show Go.AM.Pure _ from .v _).inH (zaM (show Go.AM.Pure _ from .v _).inH (zaM (show Go.AM.Pure _ from .v _).inH (zaM (show Go.AM.Pure _ from .v _).inH zbV))))))))))) zbV)))) rfl (fun h=>ziG (zhb (zfa h))) hr2).le (.k (.k .nil)))) ?_
 refine zdc (e:=r2.1) (by decide) rfl ?_
 refine Oa (.b (!r2.1)) ?_
 refine Ni ?_
 refine zej [(6,.b (!r2.1))] (.k .nil) ?_
 refine zaB ?_
 refine zaO (x:=.b (!r2.1)) (f:=fun r=>.b r) (.inr rfl) ?_ (.refl _) (Option.some.inj hM) hS
 exact (zam (zad (x:=.b (!r2.1)) rfl))
theorem zko {n:Nat} {a0:Wire} {a1:List WireFault} {r:Bool×Int} (hM:zfW n a0 a1=some r):zav Tryz.prog 25 [.agg (Wire.cells a0),.sl .no 3 (a1.map WireFault.cells)] (.tup [.b r.1,.i r.2]):=by
 refine zan mixed Tryz.func25 rfl (by decide) Tryz.ntmps25 (by simp) ?pure fun H0 g hf=>?_
 case pure=>exact .tup _ (zaa (.v _) (zaa (.v _) zaC))
 rw [zag]
 change wpA _ _ _ _ (Fr.of [(0,.agg (Wire.cells a0)),(1,.sl .no 3 (a1.map WireFault.cells))]) H0 g
 have hS:=St.start hf
 refine Sq ?_
 refine Rg 3 ?_
 refine zbP (v:=.agg (Wire.cells a0)) (cs:=(Wire.cells a0)) hS (by decide) rfl rfl (by omega) fun H hS=>?_
 refine Oa (.b false) ?_
 refine Oa (.i 0) ?_
 refine Ni ?_
 refine zaT (L':=[]) 0 2 hS rfl rfl rfl fun H hS=>?_
 refine Ws ?_
 refine Sq ?_
 refine Sq ?_
 refine Rg 3 ?_
 refine Olg (.agg (Wire.cells a0)) zcd ?_
 obtain ⟨r1,hr1,hM⟩:=zal hM
 refine zat (bs:=[.agg (Wire.cells a0)]) (by decide) rfl rfl ((zhY hr1).le (.k .nil)) ?_
 refine Oa (.i r1) ?_
 refine Ni ?_
 refine Ws ?_
 refine Sq ?_
 refine Rg 2 ?_
 refine Om (.i r1) ?_
 refine Oi (.b (r1 != 0)) ?_
 refine Ni ?_
 refine Ws ?_
 rcases bft (r1 != 0) with hb2 | hb2
 ·replace hM:=ifT hM hb2
  refine Ct hb2 ?_
  refine Sq ?_
  refine Rg 3 ?_
  refine Om (.i r1) ?_
  refine Oa (.b false) ?_
  refine Oa (.i r1) ?_
  refine Ni ?_
  refine Ws ?_
  refine zaB ?_
  refine zak ?_
  refine zaO (x:=.tup [.b false,.i r1]) (f:=fun r=>.tup [.b r.1,.i r.2]) (.inr rfl) ?_ (.refl _) (Option.some.inj hM) hS
  exact (zbn (zad (x:=.b false) rfl) (zad (x:=.i r1) rfl))
 ·replace hM:=ifF hM hb2
  refine Cf hb2 ?_
  refine zas ?_
  refine Ws ?_
  refine Sq ?_
  refine Rg 3 ?_
  refine Olg (.agg (Wire.cells a0)) zcd ?_
  obtain ⟨r3,hr3,hM⟩:=zal hM
  refine zat (bs:=[.agg (Wire.cells a0)]) (by decide) rfl rfl ((ziw hr3).le (.k .nil)) ?_
  refine Oa (pA Wiring_.cells r3) ?_
  refine Ni ?_
  refine Ws ?_
  refine Sq ?_
  refine Sq ?_
  refine Rg 4 ?_
  refine Om (pA Wiring_.cells r3) ?_
  refine Om (.sl .no 3 (a1.map WireFault.cells)) ?_
  obtain ⟨r4,hr4,hM⟩:=zal hM
  refine zat (bs:=[pA Wiring_.cells r3,.sl .no 3 (a1.map WireFault.cells)]) (by decide) rfl rfl ((zgj hr4).le (.k (.k .nil))) ?_
  refine zdc (e:=r4) (by decide) rfl ?_
  refine Ni ?_
  refine Ws ?_
  rcases bft (!r4) with hb5 | hb5
  ·replace hM:=ifT hM hb5
   refine Ct hb5 ?_
   refine Sq ?_
   refine Rg 2 ?_
   refine Oa (.b false) ?_
   refine Oa (.i 1) ?_
   refine Ni ?_
   refine Ws ?_
   refine zaB ?_
   refine zak ?_
   refine zaO (x:=.tup [.b false,.i 1]) (f:=fun r=>.tup [.b r.1,.i r.2]) (.inr rfl) ?_ (.refl _) (Option.some.inj hM) hS
   exact (zbn (zad (x:=.b false) rfl) (zad (x:=.i 1) rfl))
  ·replace hM:=ifF hM hb5
   refine Cf hb5 ?_
   refine zas ?_
   refine Ws ?_
   refine Sq ?_
   refine Rg 7 ?_
   refine Om (pA Wiring_.cells r3) ?_
   refine Om (.sl .no 3 (a1.map WireFault.cells)) ?_
   refine Of ((Wire.cells a0)) zeT ?_
   refine Olp (.sl .no 3 (a0.Presses.map WirePress.cells)) zft zgU ?_
   obtain ⟨r6,hr6,hM⟩:=zal hM
   refine zat (bs:=[pA Wiring_.cells r3,.sl .no 3 (a1.map WireFault.cells),.sl .no 3 (a0.Presses.map WirePress.cells)]) (by decide) rfl rfl ((zfy hr6).le (.k (.k (.k .nil)))) ?_
   refine Oa (.b r6) ?_
   refine Oa (.i 0) ?_
   refine Ni ?_
   refine zej [(4,.b r6),(5,.i 0)] (.k (.k .nil)) ?_
   refine zaB ?_
   refine zaO (x:=.tup [.b r6,.i 0]) (f:=fun r=>.tup [.b r.1,.i r.2]) (.inr rfl) ?_ (.refl _) (Option.some.inj hM) hS
   exact (zbn (zad (x:=.b r6) rfl) (zad (x:=.i 0) rfl))
theorem zhm {a0:Train_} {r:Wire} (hM:zdU a0=some r):zav Tryz.prog 26 [.agg (Train_.cells a0)] (.agg [.i r.Letters,.i r.Numbers,.sl .no 3 (r.Presses.map WirePress.cells),.i r.Faults]):=by
 refine zan mixed Tryz.func26 rfl (by decide) Tryz.ntmps26 (by simp) ?pure fun H0 g hf=>?_
 case pure=>exact .agg _ (zaa (.v _) (zaa (.v _) (zaa (.sl _ _ (zau (fun x=>(zaa (.v _) (zaa (.v _) (zaa (.v _) zaC)))))) (zaa (.v _) zaC))))
 rw [zag]
 change wpA _ _ _ _ (Fr.of [(0,.agg (Train_.cells a0))]) H0 g
 have hS:=St.start hf
 refine Sq ?_
 refine Rg 2 ?_
 refine zbP (v:=.agg (Train_.cells a0)) (cs:=(Train_.cells a0)) hS (by decide) rfl rfl (by omega) fun H hS=>?_
 refine zcj hS (by decide) znz (by omega) fun H hS=>?_
 refine Ni ?_
 refine zaT (L':=[(g+1,.cells [.i 0,.i 0,.sl .nil 0 [],.i 0])]) 1 1 hS rfl rfl rfl fun H hS=>?_
 refine Ws ?_
 refine Sq ?_
 refine Rg 8 ?_
 refine Of ((Train_.cells a0)) zc1 ?_
 refine Of ((Train_.cells a0)) zgX ?_
 refine Olp (.i a0.Pulse.Letters) zac zah ?_
 refine Of ((Train_.cells a0)) zc1 ?_
 refine Of ((Train_.cells a0)) zdo ?_
 refine Olp (.i a0.Pulse.Numbers) zac zah ?_
 refine zcm (cs:=[.i a0.Pulse.Letters,.i a0.Pulse.Numbers,.sl .nil 0 [],.i 0]) (by decide) znz zuv rfl ?_
 refine zaK (v:=.agg [.i a0.Pulse.Letters,.i a0.Pulse.Numbers,.sl .nil 0 [],.i 0]) (ns:=[.i a0.Pulse.Letters,.i a0.Pulse.Numbers,.sl .nil 0 [],.i 0]) (L':=[(g+1,.cells [.i a0.Pulse.Letters,.i a0.Pulse.Numbers,.sl .nil 0 [],.i 0])]) 0 hS rfl rfl .no rfl rfl zs6 nlb rfl fun H hS=>?_
 refine Ni ?_
 refine Ws ?_
 refine zaB ?_
 refine zaO (x:=.agg [.i a0.Pulse.Letters,.i a0.Pulse.Numbers,.sl .nil 0 [],.i 0]) (f:=fun r=>.agg [.i r.Letters,.i r.Numbers,.sl .no 3 (r.Presses.map WirePress.cells),.i r.Faults]) (.inr rfl) ?_ (.aggL (.k (.k (.cons (.sl0 .nil 3 0) (.k .nil))))) (Option.some.inj hM) hS
 exact (zam (zcC (x:=.agg [.i a0.Pulse.Letters,.i a0.Pulse.Numbers,.sl .nil 0 [],.i 0]) 0 hS rfl rfl (pg zcd)))
theorem zj6 {p1:Nat} (hnd:[p1].Nodup) {n:Nat} {a0:Train_} {a1:List WireFault} {r:Bool} (hM:zdH n a0 a1=some r):zhv Tryz.prog 24 [.agg (Train_.cells a0),.ptr p1 0] [(p1,.cells [.sl .od 3 (a1.map WireFault.cells)])] (.b r) [(p1,.cells [.sl .od 3 (a1.map WireFault.cells)])]:=by
 refine zbg mixed Tryz.func24 rfl (by decide) Tryz.ntmps24 (by simp) (zb6 zd8) hnd ?pure ?cells fun H0 g hf_ hp=>?_
 case pure=>exact fun H _=>(show Go.AM.Pure _ from .v _).inH
 case cells=>exact (zgI (zcp (zax (.inl (.inl (.od _ _ (zau (fun x=>(zaa (.v _) (zaa (.v _) (zaa (.v _) zaC)))))))) zeO) zgH) zd3)
 rw [zag]
 change wpA _ _ _ _ (Fr.of [(0,.agg (Train_.cells a0)),(1,.ptr p1 0)]) H0 g
 have hS:=St.startH (L:=[(p1,.cells [.sl .od 3 (a1.map WireFault.cells)])]) hf_ hnd hp
 replace hS:St (fun i=>i<g/\i∉ids [(p1,.cells [.sl .no 3 (a1.map WireFault.cells)])]) H0 [(p1,.cells [.sl .od 3 (a1.map WireFault.cells)])] H0 g:=hS
 refine Sq ?_
 refine Rg 2 ?_
 refine zbP (v:=.agg (Train_.cells a0)) (cs:=(Train_.cells a0)) hS (by decide) rfl rfl (by omega) fun H hS=>?_
 refine Oa (.b false) ?_
 refine Ni ?_
 refine zaT (L':=[(p1,.cells [.sl .od 3 (a1.map WireFault.cells)])]) 0 2 hS rfl rfl rfl fun H hS=>?_
 refine Ws ?_
 refine Sq ?_
 have hS0:=hS
 refine zdy (n:=9) rfl (by kernel_rfl) ?_
 refine Olg (.agg (Train_.cells a0)) zhj ?_
 obtain ⟨r1,hr1,hM⟩:=zal hM
 refine zat (bs:=[.agg (Train_.cells a0)]) (by decide) rfl rfl ((zhm hr1).le (.k .nil)) ?_
 refine zaW (v:=.sl .od 3 (a1.map WireFault.cells)) 0 hS (by decide) rfl rfl (.st hS0 0 rfl (by omega)) (po zfu zgV) ?_
 obtain ⟨r2,hr2,hM⟩:=zal hM
 refine zat (bs:=[.agg (Wire.cells r1),.sl .od 3 (a1.map WireFault.cells)]) (by decide) rfl rfl ((zko hr2).le (.k (.cons (.sl _ _ _) .nil))) ?_
 refine Om (.tup [.b r2.1,.i r2.2]) ?_
 refine Ox (.b r2.1) ?_
 refine Ox (.i r2.2) ?_
 refine Oa (.b r2.1) ?_
 refine Oa (.i r2.2) ?_
 refine Ni ?_
 refine Ws ?_
 refine Sq ?_
 refine Rg 3 ?_
 refine Om (.i r2.2) ?_
 refine Oi (.b (r2.2==0)) ?_
 refine Oa (.b (r2.2==0)) ?_
 refine Ni ?_
 refine Ws ?_
 refine zaB ?_
 refine zcD (x:=.b (r2.2==0)) (f:=fun r=>.b r) (fd:=fun r=>[(p1,.cells [.sl .od 3 (a1.map WireFault.cells)])]) (.inr rfl) ?_ (.refl _) (Option.some.inj hM) hS 0 rfl
 exact (zam (zad (x:=.b (r2.2==0)) rfl))
theorem zlH {n:Nat} {a0:Pulse} {a1:List WireFault} {r:(List Int)×Int} (hM:zhg n a0 a1=some r):zav Tryz.prog 9 [.agg (Pulse.cells a0),.sl .no 3 (a1.map WireFault.cells)] (.tup [.sl .no 1 (r.1.map cI),.i r.2]):=by
 refine zmG mixed Tryz.func9 rfl (by decide) Tryz.ntmps9 (bs:=[.agg [.i a0.Letters,.i a0.Numbers,.i a0.Pitch,.i a0.Slack,.i a0.Gap,.i a0.Pause,.i a0.Sparks,.sl .od 1 (a0.Times.map cI)],.sl .od 3 (a1.map WireFault.cells)]) (zs:=r.1) (y:=.int .i64 r.2) (by simp) ?pure (zfQ (.aggL (zfQ (.v _) (zfQ (.v _) (zfQ (.v _) (zfQ (.v _) (zfQ (.v _) (zfQ (.v _) (zfQ (.v _) (zfQ (.sl _ _ (by decide) (zph (fun x=>(zie zpg)))) zry))))))))) (zfQ (.sl _ _ (by decide) (zph (fun x=>(zie (zie (zie zpg)))))) zry)) fun G0 w0 C hlo hC H0 g hE0 hf=>?_
 case pure=>exact (zaa (.agg _ (zaa (.v _) (zaa (.v _) (zaa (.v _) (zaa (.v _) (zaa (.v _) (zaa (.v _) (zaa (.v _) (zaa (.sl _ _ (zau (fun x=>(zaa (.v _) zaC)))) zaC))))))))) (zaa (.sl _ _ (zau (fun x=>(zaa (.v _) (zaa (.v _) (zaa (.v _) zaC)))))) zaC))
 rw [zag]
 change Snd _ _ _ _ _ _ (Fr.of [(0,.agg [.i a0.Letters,.i a0.Numbers,.i a0.Pitch,.i a0.Slack,.i a0.Gap,.i a0.Pause,.i a0.Sparks,.sl .od 1 (a0.Times.map cI)]),(1,.sl .od 3 (a1.map WireFault.cells))]) H0 g
 have hS:=St.start hf
 refine zhq mixed hC ?_
 refine Rg 4 ?_
 refine zbP (v:=.agg [.i a0.Letters,.i a0.Numbers,.i a0.Pitch,.i a0.Slack,.i a0.Gap,.i a0.Pause,.i a0.Sparks,.sl .od 1 (a0.Times.map cI)]) (cs:=[.i a0.Letters,.i a0.Numbers,.i a0.Pitch,.i a0.Slack,.i a0.Gap,.i a0.Pause,.i a0.Sparks,.sl .od 1 (a0.Times.map cI)]) hS (by decide) rfl rfl (by omega) fun H hS=>?_
 refine zbP (v:=.sl .od 3 (a1.map WireFault.cells)) (cs:=[.sl .od 3 (a1.map WireFault.cells)]) hS (by decide) rfl rfl (by omega) fun H hS=>?_
 refine Oa (.sl .nil 0 []) ?_
 refine Oa (.i 0) ?_
 refine Ni ?_
 refine zgJ (l':=[(2,.ptr (g+0) 0),(3,.ptr (g+1) 0)]) (.k (.k .nil)) ?_
 refine zhq mixed hC ?_
 refine Rg 8 ?_
 refine zaW (v:=.agg [.i a0.Letters,.i a0.Numbers,.i a0.Pitch,.i a0.Slack,.i a0.Gap,.i a0.Pause,.i a0.Sparks,.sl .od 1 (a0.Times.map cI)]) 1 hS (by decide) rfl rfl .no (pg zbM) ?_
 refine zce (first:=[]) (cap:=[.ptr (g+1) 0]) (by decide) rfl rfl ?_
 obtain ⟨r1,hr1,hM⟩:=zal hM
 have hndr1:=hS.nd_at (ns:=[0]) (M:=[(g+1,.cells [.sl .od 3 (a1.map WireFault.cells)])]) (M':=[(g+1,.cells [.sl .od 3 (a1.map WireFault.cells)])]) (.cons rfl .nil) (by decide)
 have hncr1:=hS.nd_at (ns:=[0]) (M:=[(g+1,.cells [.sl .od 3 (a1.map WireFault.cells)])]) (M':=[(g+1,.cells [.sl .od 3 (a1.map WireFault.cells)])]) (.cons rfl .nil) (by decide)
 refine zkf (bs:=[.agg [.i a0.Letters,.i a0.Numbers,.i a0.Pitch,.i a0.Slack,.i a0.Gap,.i a0.Pause,.i a0.Sparks,.sl .od 1 (a0.Times.map cI)],.fn (.func 24) [] [.ptr (g+1) 0]]) (M:=[(g+1,.cells [.sl .od 3 (a1.map WireFault.cells)])]) (M':=[(g+1,.cells [.sl .od 3 (a1.map WireFault.cells)])]) (L':=[(g+1,.cells [.sl .od 3 (a1.map WireFault.cells)]),(g+0,.cells [.i a0.Letters,.i a0.Numbers,.i a0.Pitch,.i a0.Slack,.i a0.Gap,.i a0.Pause,.i a0.Sparks,.sl .od 1 (a0.Times.map cI)])]) [0] (.inl rfl) hS (by decide) rfl rfl ((zjE (Lo:=(fun (_:Unit)=>[(g+1,.cells [.sl .od 3 (a1.map WireFault.cells)])]))  (fun _ _=>(zb6 zd8)) (fun _=>hndr1) (fun s=>(zgI (zcp (zax (.inl (.inl (.od _ _ (zau (fun x=>(zaa (.v _) (zaa (.v _) (zaa (.v _) zaC)))))))) zeO) zgH) zd3)) (aF:=(fun (x0:Train_) (_:Unit)=>(zdH n x0 a1).map fun y=>(y,()))) (fun s H hH=>(.fn _ _ _ zbV (zaM (zjm hH 0 rfl) zbV))) rfl (fun h=>zlb (zj6 (p1:=g+1)  hncr1 (zfa h))) hr1).le (.cons (.aggL (.k (.k (.k (.k (.k (.k (.k (.cons (.sl _ _ _) .nil))))))))) (.k .nil))) (.cons rfl .nil) rfl (by omega) fun H hS=>?_
 refine Om (.tup [.sl .no 2 (r1.1.1.map Reading_.cells),.i r1.1.2]) ?_
 refine Ox (.sl .no 2 (r1.1.1.map Reading_.cells)) ?_
 refine Ox (.i r1.1.2) ?_
 refine Oa (.sl .no 2 (r1.1.1.map Reading_.cells)) ?_
 refine Oa (.i r1.1.2) ?_
 refine Ni ?_
 refine zgJ (l':=[(2,.ptr (g+0) 0),(3,.ptr (g+1) 0),(6,.sl .no 2 (r1.1.1.map Reading_.cells)),(7,.i r1.1.2)]) (.k (.k (.k (.k .nil)))) ?_
 refine zhq mixed hC ?_
 refine Sq ?_
 refine Rg 2 ?_
 refine Om (.i r1.1.2) ?_
 refine Oi (.b (r1.1.2 != 0)) ?_
 refine Ni ?_
 refine Ws ?_
 rcases bft (r1.1.2 != 0) with hb2 | hb2
 ·replace hM:=ifT hM hb2
  refine Ct hb2 ?_
  refine Sq ?_
  refine Rg 3 ?_
  refine Om (.i r1.1.2) ?_
  refine Oa (.sl .nil 0 []) ?_
  refine Oa (.i r1.1.2) ?_
  refine Ni ?_
  replace hS:=hS.keep (L':=[]) [false,false] rfl
  refine Ws ?_
  refine zaB ?_
  refine zak ?_
  obtain rfl:=Option.some.inj hM
  exact ⟨.inr rfl,.inr (.inl ⟨rfl,_,_,(zbn (zad (x:=.sl .nil 0 []) rfl) (zad (x:=.i r1.1.2) rfl))⟩)⟩
 ·replace hM:=ifF hM hb2
  refine Cf hb2 ?_
  refine zas ?_
  refine zgJ (l':=[(2,.ptr (g+0) 0),(3,.ptr (g+1) 0),(6,.sl .no 2 (r1.1.1.map Reading_.cells))]) (.k (.k (.k .nil))) ?_
  refine zhq mixed hC ?_
  refine Rg 7 ?_
  refine Om (.sl .no 2 (r1.1.1.map Reading_.cells)) ?_
  obtain ⟨r3,hr3,hM⟩:=zal hM
  refine zat (bs:=[.sl .no 2 (r1.1.1.map Reading_.cells)]) (by decide) rfl rfl ((zkg hr3).le (.k .nil)) ?_
  refine Om (.tup [.sl .fr 1 (r3.1.map cI),.i r3.2]) ?_
  refine Ox (.sl .fr 1 (r3.1.map cI)) ?_
  refine Ox (.i r3.2) ?_
  refine Oa (.sl .fr 1 (r3.1.map cI)) ?_
  refine Oa (.i r3.2) ?_
  refine Ni ?_
  refine zgJ (l':=[(2,.ptr (g+0) 0),(3,.ptr (g+1) 0),(7,.i r3.2),(8,.sl .fr 1 (r3.1.map cI))]) (.k (.k (.k (.k .nil)))) ?_
  refine zhq mixed hC ?_
  refine Sq ?_
  refine Rg 2 ?_
  refine Om (.i r3.2) ?_
  refine Oi (.b (r3.2 != 0)) ?_
  refine Ni ?_
  refine Ws ?_
  rcases bft (r3.2 != 0) with hb4 | hb4
  ·replace hM:=ifT hM hb4
   refine Ct hb4 ?_
   refine Sq ?_
   refine Rg 3 ?_
   refine Om (.i r3.2) ?_
   refine Oa (.sl .nil 0 []) ?_
   refine Oa (.i r3.2) ?_
   refine Ni ?_
   replace hS:=hS.keep (L':=[]) [false,false] rfl
   refine Ws ?_
   refine zaB ?_
   refine zak ?_
   obtain rfl:=Option.some.inj hM
   exact ⟨.inr rfl,.inr (.inl ⟨rfl,_,_,(zbn (zad (x:=.sl .nil 0 []) rfl) (zad (x:=.i r3.2) rfl))⟩)⟩
  ·replace hM:=ifF hM hb4
   refine Cf hb4 ?_
   refine zas ?_
   rcases bft (r3.1.length==0) with hb5 | hb5
   ·replace hM:=ifT hM hb5
    refine zgJ (l':=[(8,.sl .fr 1 (r3.1.map cI)),(2,.ptr (g+0) 0),(3,.ptr (g+1) 0)]) (.k (.k (.k .nil))) ?_
    refine ztO mixed hC ?_
    refine Sq ?_
    refine Sq ?_
    refine Rg 3 ?_
    refine Om (.sl .fr 1 (r3.1.map cI)) ?_
    refine zco (n:=r3.1.length) (by decide) rfl (List.length_map _) zbc ?_
    refine Om (.i 0) ?_
    refine Ni ?_
    have hz:r3.1.length=0:=eq_of_beq hb5
    have hu:r3.1=[]:=List.eq_nil_of_length_eq_zero hz
    refine Ws ?_
    refine zap ?_
    refine zbI (V:=Unit) (fun _=>[(8,.sl .fr 1 (r3.1.map cI)),(29,.i (r3.1.length:Int)),(30,.i 0)]) (fun _ _ _ _=>True) (n:=0) () (.k (.k (.k .nil))) trivial ?_
    rintro ⟨⟩ m H g _
    change wpA _ _ _ _ (Fr.of [(8,.sl .fr 1 (r3.1.map cI)),(29,.i (r3.1.length:Int)),(30,.i 0)]) _ _
    refine Sq ?_
    refine Rg 1 ?_
    refine Oi (.b (decide ((0:Int)<(r3.1.length:Int)))) ?_
    refine Ni ?_
    refine Ws ?_
    refine Sq ?_
    refine zot (e:=decide ((0:Int)<(r3.1.length:Int))) rfl (by simp [hz]) ?_
    refine zbw ?_
    refine zar ?_
    refine zao ?_
    refine zaw ?_
    refine Ws ?_
    refine Sq ?_
    refine Rg 3 ?_
    refine Om (.sl .fr 1 (r3.1.map cI)) ?_
    refine Oa (.sl .fr 1 (r3.1.map cI)) ?_
    refine Oa (.i 0) ?_
    refine Ni ?_
    refine zej [(4,.sl .fr 1 []),(5,.i 0)] (.cons (show Le (.sl .fr 1 []) (.sl .fr 1 (r3.1.map cI)) from by rw [hu];exact .refl _) (.k .nil)) ?_
    refine zaB ?_
    obtain rfl:=Option.some.inj hM
    exact ⟨.inr rfl,.inr (.inl ⟨rfl,_,_,zbn (zad rfl) (zad rfl)⟩)⟩
   ·replace hM:=ifF hM hb5
    refine zgJ (l':=[(8,.sl .fr 1 (r3.1.map cI)),(2,.ptr (g+0) 0),(3,.ptr (g+1) 0)]) (.k (.k (.k .nil))) ?_
    refine zs4 mixed hC hlo (by decide) hb5 hE0 hS (by omega) (fun i hi=>by have hi:i<g:=hi;omega) (zfb (.ptr _ _ 1 _ rfl) (zfb (.ptr _ _ 0 _ rfl) zoH)) (znx (zfb (.od _ _ (zph (fun x=>(zie (zie (zie zpg)))))) zoH) (znx (zfb (.v _) (zfb (.v _) (zfb (.v _) (zfb (.v _) (zfb (.v _) (zfb (.v _) (zfb (.v _) (zfb (.od _ _ (zph (fun x=>(zie zpg)))) zoH)))))))) zs3)) fun H hS=>?_
    refine zaF (J:=(List Int)) (fun j=>[(8,.ms (g+4+8+2+7+2) 0 1 r3.1.length r3.1.length)]) (fun j H' g'=>St (·<g) H0 [(g+4+8+2+7+2,.cells (j.map cI).flatten)] H' g'/\zfr r3 j=some r) ?_ ?_
    ·rintro v6 H g1 ⟨hS,hM⟩
     change wpA _ _ _ _ (Fr.of [(8,.ms (g+4+8+2+7+2) 0 1 r3.1.length r3.1.length)]) _ _
     replace hS:St (·<g) H0 [(g+4+8+2+7+2,.cells (v6.map cI).flatten)] H g1:=hS
     replace hM:zfr r3 v6=some r:=hM
     refine Sq ?_
     refine Rg 3 ?_
     refine Om (.ms (g+4+8+2+7+2) 0 1 r3.1.length r3.1.length) ?_
     refine Oa (.ms (g+4+8+2+7+2) 0 1 r3.1.length r3.1.length) ?_
     refine Oa (.i 0) ?_
     refine Ni ?_
     refine Ws ?_
     refine zaB ?_
     obtain ⟨x7,hx7,hM⟩:=zal hM
     obtain rfl:=Option.some.inj hM
     refine zs5 0 (.inr rfl) (zs1 hx7) ?_ hS rfl
     exact (zbn (zad (x:=.ms (g+4+8+2+7+2) 0 1 r3.1.length r3.1.length) rfl) (zad (x:=.i 0) rfl))
    ·refine Sq ?_
     refine Rg 3 ?_
     refine Om (.ms (g+4+8+2+7+2) 0 1 r3.1.length r3.1.length) ?_
     refine zvu (n:=r3.1.length) (by decide) rfl zbc ?_
     refine Om (.i 0) ?_
     refine Ni ?_
     refine Ws ?_
     refine zap ?_
     refine zbI (V:=Int×(List Int)) (fun v=>[(2,.ptr (g+0) 0),(3,.ptr (g+1) 0),(8,.ms (g+4+8+2+7+2) 0 1 r3.1.length r3.1.length),(28,.ms (g+4+8+2+7+2) 0 1 r3.1.length r3.1.length),(29,.i (r3.1.length:Int)),(30,.i v.1)]) (fun v m3 H' g'=>St (·<g) H0 [(g+4+8+2+7+2,.cells (v.2.map cI).flatten),(g+1,.cells [.sl .od 3 (a1.map WireFault.cells)]),(g+0,.cells [.i a0.Letters,.i a0.Numbers,.i a0.Pitch,.i a0.Slack,.i a0.Gap,.i a0.Pause,.i a0.Sparks,.sl .od 1 (a0.Times.map cI)])] H' g'/\zcZ n a0 a1 r3 m3 v.1 v.2=some r) (n:=n) (0,r3.1) (.k (.k (.k (.k (.k (.k .nil)))))) ⟨(hS.keep [true,true,true] rfl).up (by omega),hM⟩ ?_
     rintro ⟨v9,v10⟩ m3 H g3 ⟨hS,hM⟩
     obtain _ | m3:=m3
     ·exact nomatch (show none=some _ from hM)
     change wpA _ _ _ _ (Fr.of [(2,.ptr (g+0) 0),(3,.ptr (g+1) 0),(8,.ms (g+4+8+2+7+2) 0 1 r3.1.length r3.1.length),(28,.ms (g+4+8+2+7+2) 0 1 r3.1.length r3.1.length),(29,.i (r3.1.length:Int)),(30,.i v9)]) _ _
     replace hS:St (·<g) H0 [(g+4+8+2+7+2,.cells (v10.map cI).flatten),(g+1,.cells [.sl .od 3 (a1.map WireFault.cells)]),(g+0,.cells [.i a0.Letters,.i a0.Numbers,.i a0.Pitch,.i a0.Slack,.i a0.Gap,.i a0.Pause,.i a0.Sparks,.sl .od 1 (a0.Times.map cI)])] H g3:=hS
     replace hM:zeJ n a0 a1 r3 (zcZ n a0 a1 r3 m3) v9 v10=some r:=hM
     refine Sq ?_
     refine Rg 1 ?_
     refine Oi (.b (decide (v9<(r3.1.length:Int)))) ?_
     refine Ni ?_
     refine Ws ?_
     refine Sq ?_
     rcases bft (decide (v9<(r3.1.length:Int))) with hb11 | hb11
     ·replace hM:=ifT hM hb11
      refine Ct hb11 ?_
      refine zas ?_
      refine Ws ?_
      refine Sq ?_
      refine zap ?_
      refine Sq ?_
      refine Rg 5 ?_
      refine Om (.i v9) ?_
      obtain ⟨x12,hx12,hM⟩:=zal hM
      refine zpl (xs:=v10) (z:=v9) (u:=x12) (by decide) rfl (zpm hx12) rfl zbi (zkB hx12) ?_
      refine zut (f:=cI) (xs:=v10) (z:=v9) (u:=x12) (c:=.i x12) 0 hS (by decide) rfl rfl (zkB hx12) .no (fun _=>rfl) rfl zac zah ?_
      refine Oa (.i v9) ?_
      refine Oa (.i x12) ?_
      refine Ni ?_
      refine Ws ?_
      have hS0:=hS
      refine zdy (n:=20) rfl (by kernel_rfl) ?_
      refine Om (.ms (g+4+8+2+7+2) 0 1 r3.1.length r3.1.length) ?_
      refine Om (.i v9) ?_
      refine zaW (v:=.agg [.i a0.Letters,.i a0.Numbers,.i a0.Pitch,.i a0.Slack,.i a0.Gap,.i a0.Pause,.i a0.Sparks,.sl .od 1 (a0.Times.map cI)]) 2 hS (by decide) rfl rfl (.st hS0 2 rfl (by omega)) (pg zbM) ?_
      refine zcm (cs:=[.i a0.Letters,.i a0.Numbers,.i a0.Pitch,.i a0.Slack,.i a0.Gap,.i a0.Pause,.i a0.Sparks,.sl .od 1 (a0.Times.map cI)]) (by decide) zio zoK rfl ?_
      obtain ⟨r13,hr13,hM⟩:=zal hM
      refine zat (bs:=[.agg [.i a0.Letters,.i a0.Numbers,.i a0.Pitch,.i a0.Slack,.i a0.Gap,.i a0.Pause,.i a0.Sparks,.sl .od 1 (a0.Times.map cI)]]) (by decide) rfl rfl ((zhm hr13).le (.cons (.aggL (.k (.k (.k (.k (.k (.k (.k (.cons (.sl _ _ _) .nil))))))))) .nil)) ?_
      refine zaW (v:=.sl .od 3 (a1.map WireFault.cells)) 1 hS (by decide) rfl rfl (.st hS0 1 rfl (by omega)) (po zfu zgV) ?_
      refine Om (.i x12) ?_
      refine zaJ (by decide) zdo rfl ?_
      refine zaW (v:=.i a0.Numbers) 2 hS (by decide) rfl rfl (.st hS0 2 rfl (by omega)) (po zac zah) ?_
      obtain ⟨q14,hq14,hM⟩:=zal hM
      refine zou (by decide) rfl rfl (zov hq14) ?_
      refine Om (.i x12) ?_
      refine zaJ (by decide) zdo rfl ?_
      refine zaW (v:=.i a0.Numbers) 2 hS (by decide) rfl rfl (.st hS0 2 rfl (by omega)) (po zac zah) ?_
      obtain ⟨q15,hq15,hM⟩:=zal hM
      refine zou (by decide) rfl rfl (zow hq15) ?_
      obtain ⟨r16,hr16,hM⟩:=zal hM
      refine zat (bs:=[.agg (Wire.cells r13),.sl .od 3 (a1.map WireFault.cells),.i q14,.i q15]) (by decide) rfl rfl ((zjI hr16).le (.k (.cons (.sl _ _ _) (.k (.k .nil))))) ?_
      refine Om (.tup [.i r16.1,.i r16.2]) ?_
      refine Ox (.i r16.1) ?_
      refine Ox (.i r16.2) ?_
      obtain ⟨x17,hx17,hM⟩:=zal hM
      refine zpl (xs:=v10) (z:=v9) (u:=x17) (by decide) rfl (zpm hx17) rfl zbi (zkB hx17) ?_
      refine zs0 (f:=cI) (k:=1) (xs:=v10) (z:=v9) (u:=x17) (w:=r16.1) (v:=.i r16.1) (L':=[(g+4+8+2+7+2,.cells ((v10.set (Int.toNat v9) r16.1).map cI).flatten),(g+1,.cells [.sl .od 3 (a1.map WireFault.cells)]),(g+0,.cells [.i a0.Letters,.i a0.Numbers,.i a0.Pitch,.i a0.Slack,.i a0.Gap,.i a0.Pause,.i a0.Sparks,.sl .od 1 (a0.Times.map cI)])]) 0 hS rfl rfl (zkB hx17) (.st hS0 0 rfl (by omega)) (fun _=>rfl) rfl rfl zfs rfl fun H hS=>?_
      refine Ni ?_
      refine zae ?_
      refine Ws ?_
      refine Rg 2 ?_
      refine Oi (.i (w64 (v9+1))) ?_
      refine Om (.i (w64 (v9+1))) ?_
      refine Ni ?_
      exact za4 (w64 (v9+1),(v10.set (Int.toNat v9) r16.1)) (Nat.lt_succ_self _) (.k (.k (.k (.k (.k (.k .nil)))))) ⟨(hS.keep [true,true,true] rfl).up (by omega),hM⟩
     ·replace hM:=ifF hM hb11
      refine Cf hb11 ?_
      refine zbw ?_
      refine zar ?_
      refine zao ?_
      refine zaw ?_
      exact zai v10 (.k .nil) ⟨(hS.keep [true,false,false] rfl).up (by omega),hM⟩
theorem zh1 {a0:WireFault} {a1:WireFault} {r:Bool} (hM:zcN a0 a1=some r):zav Tryz.prog 110 [.agg (WireFault.cells a0),.ep (WireFault.cells a1)] (.b r):=by
 refine zan mixed Tryz.func110 rfl (by decide) Tryz.ntmps110 (by simp) ?pure fun H0 g hf=>?_
 case pure=>exact .v _
 rw [zag]
 change wpA _ _ _ _ (Fr.of [(0,.agg (WireFault.cells a0)),(1,.ep (WireFault.cells a1))]) H0 g
 have hS:=St.start hf
 refine Sq ?_
 refine Rg 2 ?_
 refine zbP (v:=.agg (WireFault.cells a0)) (cs:=(WireFault.cells a0)) hS (by decide) rfl rfl (by omega) fun H hS=>?_
 refine Oa (.b false) ?_
 refine Ni ?_
 refine zaT (L':=[]) 0 2 hS rfl rfl rfl fun H hS=>?_
 refine Ws ?_
 refine Sq ?_
 refine Rg 4 ?_
 refine Olg (.agg (WireFault.cells a1)) zbU ?_
 refine Olg (.agg (WireFault.cells a0)) zbU ?_
 obtain ⟨r1,hr1,hM⟩:=zal hM
 refine zat (bs:=[.agg (WireFault.cells a1),.agg (WireFault.cells a0)]) (by decide) rfl rfl ((zjH hr1).le (.k (.k .nil))) ?_
 refine Oa (.b r1) ?_
 refine Ni ?_
 refine Ws ?_
 refine zaB ?_
 refine zaO (x:=.b r1) (f:=fun r=>.b r) (.inr rfl) ?_ (.refl _) (Option.some.inj hM) hS
 exact (zam (zad (x:=.b r1) rfl))
theorem ziA {S:Type} {Lo:S->BL} (hk:∀s s',zgl (Lo s) (Lo s')) (hnd:∀s,(ids (Lo s)).Nodup) (hin:∀s,InB In (Lo s)) {aF:(List WireFault)->S->Option (Bool×S)} {f0:AV} (hF:∀s H,Has H (Lo s)->In H f0) (h0:cellsOf f0=some [f0]) (hf:∀{x0:List WireFault} {s:S} {r:Bool×S},aF x0 s=some r->zjP Tryz.prog f0 [.sl .no 3 (x0.map WireFault.cells)] (Lo s) (.b r.1) (Lo r.2)) {n:Nat} {rec:(Option Wiring_)->(List WireFault)->Int->Int->S->Option (Bool×S)} (hrec:∀{a0:Option Wiring_} {a1:List WireFault} {a2:Int} {a3:Int} {st:S} {r:Bool×S},rec a0 a1 a2 a3 st=some r->zhv Tryz.prog 103 [pA Wiring_.cells a0,.sl .no 3 (a1.map WireFault.cells),.i a2,.i a3,f0] (Lo st) (.b r.1) (Lo r.2)) {a0:Option Wiring_} {a1:List WireFault} {a2:Int} {a3:Int} {st:S} {r:Bool×S} (hM:zdR n rec aF a0 a1 a2 a3 st=some r):zhv Tryz.prog 103 [pA Wiring_.cells a0,.sl .no 3 (a1.map WireFault.cells),.i a2,.i a3,f0] (Lo st) (.b r.1) (Lo r.2):=by
 have hnd0:∀s,(ids (Lo s)).Nodup:=fun s=>hnd s
 refine zbg mixed Tryz.func103 rfl (by decide) Tryz.ntmps103 (by simp) (hk _ _) (hnd st) ?pure ?cells fun H0 g hf_ hp=>?_
 case pure=>exact fun H _=>(show Go.AM.Pure _ from .v _).inH
 case cells=>exact hin _
 rw [zag]
 change wpA _ _ _ _ (Fr.of [(0,pA Wiring_.cells a0),(1,.sl .no 3 (a1.map WireFault.cells)),(2,.i a2),(3,.i a3),(4,f0)]) H0 g
 have hS:=St.startH (L:=([]++Lo st)) hf_ (hnd st) hp
 replace hS:St (fun i=>i<g/\i∉ids (Lo st)) H0 ([]++Lo st) H0 g:=hS
 refine Sq ?_
 refine Rg 1 ?_
 refine Oa (.b false) ?_
 refine Ni ?_
 refine Ws ?_
 refine Sq ?_
 refine Sq ?_
 refine Rg 4 ?_
 refine Om (f0) ?_
 refine Om (.sl .no 3 (a1.map WireFault.cells)) ?_
 obtain ⟨r1,hr1,hM⟩:=zal hM
 replace hS:St (fun i=>i<g/\i∉ids (Lo st)) H0 ([]++Lo st) _ _:=hS
 refine zhN (bs:=[.sl .no 3 (a1.map WireFault.cells)]) (.inl rfl) hS (by decide) rfl rfl ((hf hr1).le (.k .nil)) (hk _ _).ids (by omega) fun H hS=>?_
 refine zdc (e:=r1.1) (by decide) rfl ?_
 refine Ni ?_
 refine Ws ?_
 rcases bft (!r1.1) with hb2 | hb2
 ·replace hM:=ifT hM hb2
  refine Ct hb2 ?_
  refine Sq ?_
  refine Rg 1 ?_
  refine Oa (.b false) ?_
  refine Ni ?_
  refine Ws ?_
  refine zaB ?_
  refine zak ?_
  refine zcD (x:=.b false) (f:=fun r=>.b r.1) (fd:=fun r=>(Lo r.2)) (.inr rfl) ?_ (.refl _) (Option.some.inj hM) hS 0 rfl
  exact (zam (zad (x:=.b false) rfl))
 ·replace hM:=ifF hM hb2
  refine Cf hb2 ?_
  refine zas ?_
  refine Ws ?_
  refine Sq ?_
  refine Sq ?_
  refine Rg 2 ?_
  refine Om (.i a3) ?_
  refine Oi (.b (a3==0)) ?_
  refine Ni ?_
  refine Ws ?_
  rcases bft (a3==0) with hb3 | hb3
  ·replace hM:=ifT hM hb3
   refine Ct hb3 ?_
   refine Sq ?_
   refine Rg 1 ?_
   refine Oa (.b true) ?_
   refine Ni ?_
   refine Ws ?_
   refine zaB ?_
   refine zak ?_
   refine zcD (x:=.b true) (f:=fun r=>.b r.1) (fd:=fun r=>(Lo r.2)) (.inr rfl) ?_ (.refl _) (Option.some.inj hM) hS 0 rfl
   exact (zam (zad (x:=.b true) rfl))
  ·replace hM:=ifF hM hb3
   refine Cf hb3 ?_
   refine zas ?_
   refine Ws ?_
   refine zaF (J:=S) (fun j=>[]) (fun j H' g'=>St (fun i=>i<g/\i∉ids (Lo st)) H0 ([]++Lo j) H' g'/\zdx j=some r) ?_ ?_
   ·rintro v4 H g1 ⟨hS,hM⟩
    change wpA _ _ _ _ (Fr.of []) _ _
    replace hS:St (fun i=>i<g/\i∉ids (Lo st)) H0 ([]++Lo v4) H g1:=hS
    replace hM:zdx v4=some r:=hM
    refine Sq ?_
    refine Rg 1 ?_
    refine Oa (.b true) ?_
    refine Ni ?_
    refine Ws ?_
    refine zaB ?_
    refine zcD (x:=.b true) (f:=fun r=>.b r.1) (fd:=fun r=>(Lo r.2)) (.inr rfl) ?_ (.refl _) (Option.some.inj hM) hS 0 rfl
    exact (zam (zad (x:=.b true) rfl))
   ·refine Sq ?_
    refine Rg 2 ?_
    refine Om (.i a2) ?_
    refine Oa (.i a2) ?_
    refine Ni ?_
    refine Ws ?_
    refine zap ?_
    refine zbI (V:=Int×S) (fun v=>[(0,pA Wiring_.cells a0),(1,.sl .no 3 (a1.map WireFault.cells)),(3,.i a3),(4,f0),(11,.i v.1)]) (fun v m3 H' g'=>St (fun i=>i<g/\i∉ids (Lo st)) H0 ([]++Lo v.2) H' g'/\za0 n rec a0 a1 a3 m3 v.1 v.2=some r) (n:=n) (a2,r1.2) (.k (.k (.k (.k (.k .nil))))) ⟨(hS.keep [] rfl).up (by omega),hM⟩ ?_
    rintro ⟨v6,v7⟩ m3 H g3 ⟨hS,hM⟩
    obtain _ | m3:=m3
    ·exact nomatch (show none=some _ from hM)
    change wpA _ _ _ _ (Fr.of [(0,pA Wiring_.cells a0),(1,.sl .no 3 (a1.map WireFault.cells)),(3,.i a3),(4,f0),(11,.i v6)]) _ _
    replace hS:St (fun i=>i<g/\i∉ids (Lo st)) H0 ([]++Lo v7) H g3:=hS
    replace hM:zc5 n rec a0 a1 a3 (za0 n rec a0 a1 a3 m3) v6 v7=some r:=hM
    refine Sq ?_
    refine Sq ?_
    refine Rg 7 ?_
    refine Om (.i v6) ?_
    refine Om (pA Wiring_.cells a0) ?_
    obtain ⟨x8,hx8,hM⟩:=zal hM
    refine zl5 (f:=Wiring_.cells) (p:=a0) (u:=x8) (by decide) rfl hx8 ?_
    refine Of ((Wiring_.cells x8)) zfL ?_
    refine Olp (.sl .no 3 (x8.all.map WireFault.cells)) zfu zgV ?_
    refine zco (n:=x8.all.length) (by decide) rfl (List.length_map _) zeK ?_
    refine Oi (.b (decide (v6<(x8.all.length:Int)))) ?_
    refine Ni ?_
    refine Ws ?_
    rcases bft (decide (v6<(x8.all.length:Int))) with hb9 | hb9
    ·replace hM:=ifT hM hb9
     refine Ct hb9 ?_
     refine zas ?_
     refine Ws ?_
     refine zaF (J:=S) (fun j=>[(0,pA Wiring_.cells a0),(1,.sl .no 3 (a1.map WireFault.cells)),(3,.i a3),(4,f0),(11,.i v6)]) (fun j H' g'=>St (fun i=>i<g/\i∉ids (Lo st)) H0 ([]++Lo j) H' g'/\zcg (za0 n rec a0 a1 a3 m3) v6 j=some r) ?_ ?_
     ·rintro v10 H g4 ⟨hS,hM⟩
      change wpA _ _ _ _ (Fr.of [(0,pA Wiring_.cells a0),(1,.sl .no 3 (a1.map WireFault.cells)),(3,.i a3),(4,f0),(11,.i v6)]) _ _
      replace hS:St (fun i=>i<g/\i∉ids (Lo st)) H0 ([]++Lo v10) H g4:=hS
      replace hM:zcg (za0 n rec a0 a1 a3 m3) v6 v10=some r:=hM
      refine Rg 3 ?_
      refine Om (.i v6) ?_
      refine Oi (.i (w64 (v6+1))) ?_
      refine Oa (.i (w64 (v6+1))) ?_
      refine Ni ?_
      exact za4 (w64 (v6+1),v10) (Nat.lt_succ_self _) (.k (.k (.k (.k (.k .nil))))) ⟨(hS.keep [] rfl).up (by omega),hM⟩
     ·refine zap ?_
      refine Sq ?_
      refine Rg 9 ?_
      refine Om (pA Wiring_.cells a0) ?_
      obtain ⟨x11,hx11,hM⟩:=zal hM
      refine zl5 (f:=Wiring_.cells) (p:=a0) (u:=x11) (by decide) rfl hx11 ?_
      refine Of ((Wiring_.cells x11)) zfL ?_
      refine Olp (.sl .no 3 (x11.all.map WireFault.cells)) zfu zgV ?_
      refine Om (.i v6) ?_
      obtain ⟨x12,hx12,hM⟩:=zal hM
      refine zbj (xs:=x11.all) (f:=WireFault.cells) (z:=v6) (u:=x12) (by decide) rfl rfl zbH hx12 ?_
      refine Olg (.agg (WireFault.cells x12)) zbU ?_
      refine zcj hS (by decide) zdI (by omega) fun H hS=>?_
      refine zaK (v:=.agg (WireFault.cells x12)) (ns:=(WireFault.cells x12)) (L':=([(g3+7+7,.cells (WireFault.cells x12))]++Lo v7)) 0 hS rfl rfl .no rfl rfl zjs nlb rfl fun H hS=>?_
      refine Ni ?_
      refine zaT (L':=([]++Lo v7)) 0 12 hS rfl rfl rfl fun H hS=>?_
      refine Ws ?_
      refine Sq ?_
      refine Sq ?_
      refine Rg 3 ?_
      refine Om (.sl .no 3 (a1.map WireFault.cells)) ?_
      refine zce (first:=[]) (cap:=[.ep (WireFault.cells x12)]) (by decide) rfl rfl ?_
      obtain ⟨r13,hr13,hM⟩:=zal hM
      refine zat (bs:=[.sl .no 3 (a1.map WireFault.cells),.fn (.func 110) [] [.ep (WireFault.cells x12)]]) (by decide) rfl rfl (ze5 ((zb3 (Lo:=(fun (_:Unit)=>[]))  (fun _ _=>zd8) (fun _=>List.nodup_nil) (fun _=>zd3) (aF:=(fun (x0:WireFault) (_:Unit)=>(zcN x0 x12).map fun y=>(y,()))) (fun _ H hH=>(.fn _ _ _ zbV (zaM (.ep _ (zaM (show Go.AM.Pure _ from .v _).inH (zaM (show Go.AM.Pure _ from .v _).inH (zaM (show Go.AM.Pure _ from .v _).inH zbV)))) zbV))) rfl (fun h=>ziG (zh1 (zfa h))) hr13).le (.k (.k .nil)))) ?_
      refine Ni ?_
      refine Ws ?_
      rcases bft r13.1 with hb14 | hb14
      ·replace hM:=ifT hM hb14
       refine Ct hb14 ?_
       refine zbw ?_
       refine zar ?_
       refine zaw ?_
       exact zai v7 (.k (.k (.k (.k (.k .nil))))) ⟨(hS.keep [] rfl).up (by omega),hM⟩
      ·replace hM:=ifF hM hb14
       refine Cf hb14 ?_
       refine zas ?_
       refine Ws ?_
       refine Sq ?_
       have hS0:=hS
       refine zdy (n:=17) rfl (by kernel_rfl) ?_
       refine Om (pA Wiring_.cells a0) ?_
       refine Om (.sl .no 3 (a1.map WireFault.cells)) ?_
       refine Om (.sl .no 3 (a1.map WireFault.cells)) ?_
       refine zco (n:=a1.length) (by decide) rfl (List.length_map _) zeK ?_
       refine Om (.sl .no 3 (a1.map WireFault.cells)) ?_
       refine zco (n:=a1.length) (by decide) rfl (List.length_map _) zeK ?_
       obtain ⟨c15,hc15,hM⟩:=zal hM
       refine zsR (xs:=a1) (ys:=c15) (f:=WireFault.cells) (q:=(a1.length:Int)) (by decide) rfl zbH rfl rfl hc15 ?_
       refine Olg (.agg (WireFault.cells x12)) zbU ?_
       refine zaX (es:=[(WireFault.cells x12)]) hS (by decide) zbH zd5 rfl zd6 rfl (by decide) (by omega) fun H hS=>?_
       obtain ⟨l16,hl16,hM⟩:=zal hM
       refine zro (xs:=c15) (ys:=([x12]:List WireFault)) (zs:=l16) (f:=WireFault.cells) hS (by decide) rfl rfl (List.cons_ne_nil _ _) zbH zd5 zd6 hl16 (by omega) fun H hS=>?_
       refine Om (.i v6) ?_
       refine Oi (.i (w64 (v6+1))) ?_
       refine Om (.i a3) ?_
       refine Oi (.i (w64 (a3-1))) ?_
       refine Om (f0) ?_
       obtain ⟨r17,hr17,hM⟩:=zal hM
       replace hS:St (fun i=>i<g/\i∉ids (Lo st)) H0 ([(g3+7+9+3+9,.row 82 l16.length),(g3+7+9+3+8,.row 82 1)]++Lo v7) _ _:=hS
       refine zhe (bs:=[pA Wiring_.cells a0,.sl (.id (g3+7+9+3+9)) 3 (l16.map WireFault.cells),.i (w64 (v6+1)),.i (w64 (a3-1)),f0]) (.inr (by kernel_rfl)) hS (by decide) rfl rfl ((hrec hr17).le (.k (.cons (.sl _ _ _) (.k (.k (.k .nil)))))) (hk _ _).ids (by omega) fun H hS=>?_
       refine zdc (e:=r17.1) (by decide) rfl ?_
       refine Ni ?_
       replace hS:=hS.keep (L':=([]++Lo r17.2)) [false,false] rfl
       refine Ws ?_
       rcases bft (!r17.1) with hb18 | hb18
       ·replace hM:=ifT hM hb18
        refine Ct hb18 ?_
        refine Sq ?_
        refine Rg 1 ?_
        refine Oa (.b false) ?_
        refine Ni ?_
        refine Ws ?_
        refine zaB ?_
        refine zaq ?_
        refine zaI ?_
        refine zaL ?_
        refine zaq ?_
        refine zaI ?_
        refine zcD (x:=.b false) (f:=fun r=>.b r.1) (fd:=fun r=>(Lo r.2)) (.inr rfl) ?_ (.refl _) (Option.some.inj hM) hS 0 rfl
        exact (zam (zad (x:=.b false) rfl))
       ·replace hM:=ifF hM hb18
        refine Cf hb18 ?_
        refine zas ?_
        refine zae ?_
        exact zai r17.2 (.k (.k (.k (.k (.k .nil))))) ⟨(hS.keep [] rfl).up (by omega),hM⟩
    ·replace hM:=ifF hM hb9
     refine Cf hb9 ?_
     refine zbw ?_
     refine zar ?_
     refine zao ?_
     refine zaw ?_
     exact zai v7 .nil ⟨(hS.keep [] rfl).up (by omega),hM⟩
theorem zg2 {S:Type} {Lo:S->BL} (hk:∀s s',zgl (Lo s) (Lo s')) (hnd:∀s,(ids (Lo s)).Nodup) (hin:∀s,InB In (Lo s)) {aF:(List WireFault)->S->Option (Bool×S)} {f0:AV} (hF:∀s H,Has H (Lo s)->In H f0) (h0:cellsOf f0=some [f0]) (hf:∀{x0:List WireFault} {s:S} {r:Bool×S},aF x0 s=some r->zjP Tryz.prog f0 [.sl .no 3 (x0.map WireFault.cells)] (Lo s) (.b r.1) (Lo r.2)):∀{n:Nat} {a0:Option Wiring_} {a1:List WireFault} {a2:Int} {a3:Int} {st:S} {r:Bool×S},zbE n aF a0 a1 a2 a3 st=some r->zhv Tryz.prog 103 [pA Wiring_.cells a0,.sl .no 3 (a1.map WireFault.cells),.i a2,.i a3,f0] (Lo st) (.b r.1) (Lo r.2)
 | 0,_,_,_,_,_,_,h=>nomatch (show none=some _ from h)
 | n+1,_,_,_,_,_,_,h=>ziA hk hnd hin hF h0 hf (n:=n) (rec:=zbE n aF) (fun h=>zg2 hk hnd hin hF h0 hf h) h
theorem zf5 {S:Type} {Lo:S->BL} (hk:∀s s',zgl (Lo s) (Lo s')) (hnd:∀s,(ids (Lo s)).Nodup) (hin:∀s,InB In (Lo s)) {aF:(List WireFault)->S->Option (Bool×S)} {f0:AV} (hF:∀s H,Has H (Lo s)->In H f0) (h0:cellsOf f0=some [f0]) (hf:∀{x0:List WireFault} {s:S} {r:Bool×S},aF x0 s=some r->zjP Tryz.prog f0 [.sl .no 3 (x0.map WireFault.cells)] (Lo s) (.b r.1) (Lo r.2)) {n:Nat} {a0:List WireFault} {a1:Option Wiring_} {a2:List WirePress} {st:S} {r:Bool×S} (hM:zbq n aF a0 a1 a2 st=some r):zhv Tryz.prog 104 [.sl .no 3 (a0.map WireFault.cells),.ep [pA Wiring_.cells a1],.ep [.sl .no 3 (a2.map WirePress.cells)],.ep [f0]] (Lo st) (.b r.1) (Lo r.2):=by
 have hnd0:∀s,(ids (Lo s)).Nodup:=fun s=>hnd s
 refine zbg mixed Tryz.func104 rfl (by decide) Tryz.ntmps104 (by simp) (hk _ _) (hnd st) ?pure ?cells fun H0 g hf_ hp=>?_
 case pure=>exact fun H _=>(show Go.AM.Pure _ from .v _).inH
 case cells=>exact hin _
 rw [zag]
 change wpA _ _ _ _ (Fr.of [(0,.sl .no 3 (a0.map WireFault.cells)),(1,.ep [pA Wiring_.cells a1]),(2,.ep [.sl .no 3 (a2.map WirePress.cells)]),(3,.ep [f0])]) H0 g
 have hS:=St.startH (L:=([]++Lo st)) hf_ (hnd st) hp
 replace hS:St (fun i=>i<g/\i∉ids (Lo st)) H0 ([]++Lo st) H0 g:=hS
 refine Sq ?_
 refine Rg 1 ?_
 refine Oa (.b false) ?_
 refine Ni ?_
 refine Ws ?_
 refine zaF (J:=Bool×S) (fun j=>[(5,.b j.1)]) (fun j H' g'=>St (fun i=>i<g/\i∉ids (Lo st)) H0 ([]++Lo j.2) H' g'/\za9 j.1 j.2=some r) ?_ ?_
 ·rintro ⟨v1,v2⟩ H g1 ⟨hS,hM⟩
  change wpA _ _ _ _ (Fr.of [(5,.b v1)]) _ _
  replace hS:St (fun i=>i<g/\i∉ids (Lo st)) H0 ([]++Lo v2) H g1:=hS
  replace hM:za9 v1 v2=some r:=hM
  refine zaB ?_
  refine zcD (x:=.b v1) (f:=fun r=>.b r.1) (fd:=fun r=>(Lo r.2)) (.inr rfl) ?_ (.refl _) (Option.some.inj hM) hS 0 rfl
  exact (zam (zad (x:=.b v1) rfl))
 ·refine Rg 11 ?_
  refine Olp (pA Wiring_.cells a1) zfv zgW ?_
  refine Om (.sl .no 3 (a0.map WireFault.cells)) ?_
  refine Olp (.sl .no 3 (a2.map WirePress.cells)) zft zgU ?_
  obtain ⟨r3,hr3,hM⟩:=zal hM
  refine zat (bs:=[pA Wiring_.cells a1,.sl .no 3 (a0.map WireFault.cells),.sl .no 3 (a2.map WirePress.cells)]) (by decide) rfl rfl ((zfy hr3).le (.k (.k (.k .nil)))) ?_
  refine zdc (e:=r3) (by decide) rfl ?_
  refine Om (.b (!r3)) ?_
  rcases bft (!r3) with hb4 | hb4
  ·replace hM:=ifT hM hb4
   refine On (want:=false) hb4 ?_
   refine On (want:=false) hb4 ?_
   refine On (want:=false) hb4 ?_
   refine Pt (.b true) hb4 ?_
   refine Oa (.b true) ?_
   refine Ni ?_
   exact zai (true,st) (.k .nil) ⟨(hS.keep [] rfl).up (by omega),hM⟩
  ·replace hM:=ifF hM hb4
   refine Oy (want:=false) hb4 ?_
   refine Olp (f0) zs8 zuw ?_
   refine Oy (want:=false) hb4 ?_
   refine Om (.sl .no 3 (a0.map WireFault.cells)) ?_
   refine Oy (want:=false) hb4 ?_
   obtain ⟨r5,hr5,hM⟩:=zal hM
   replace hS:St (fun i=>i<g/\i∉ids (Lo st)) H0 ([]++Lo st) _ _:=hS
   refine zhN (bs:=[.sl .no 3 (a0.map WireFault.cells)]) (.inl rfl) hS (by decide) rfl rfl ((hf hr5).le (.k .nil)) (hk _ _).ids (by omega) fun H hS=>?_
   refine Pf (.b r5.1) hb4 ?_
   refine Oa (.b r5.1) ?_
   refine Ni ?_
   exact zai (r5.1,r5.2) (.k .nil) ⟨(hS.keep [] rfl).up (by omega),hM⟩
theorem zg3 {S:Type} {Lo:S->BL} (hk:∀s s',zgl (Lo s) (Lo s')) (hnd:∀s,(ids (Lo s)).Nodup) (hin:∀s,InB In (Lo s)) {aF:(List WireFault)->S->Option (Bool×S)} {f0:AV} (hF:∀s H,Has H (Lo s)->In H f0) (h0:cellsOf f0=some [f0]) (hf:∀{x0:List WireFault} {s:S} {r:Bool×S},aF x0 s=some r->zjP Tryz.prog f0 [.sl .no 3 (x0.map WireFault.cells)] (Lo s) (.b r.1) (Lo r.2)) {n:Nat} {a1:Option Wiring_} {a2:Int} {a3:List WirePress} {st:S} {r:Unit×S} (hM:zcu n aF a1 a2 a3 st=some r):zhv Tryz.prog 102 [f0,.ep [pA Wiring_.cells a1],.ep [.i a2],.ep [.sl .no 3 (a3.map WirePress.cells)]] (Lo st) (.tup []) (Lo r.2):=by
 have hnd0:∀s,(ids (Lo s)).Nodup:=fun s=>hnd s
 refine zbg mixed Tryz.func102 rfl (by decide) Tryz.ntmps102 (by simp) (hk _ _) (hnd st) ?pure ?cells fun H0 g hf_ hp=>?_
 case pure=>exact fun H _=>(show Go.AM.Pure _ from .tup _ zaC).inH
 case cells=>exact hin _
 rw [zag]
 change wpA _ _ _ _ (Fr.of [(0,f0),(1,.ep [pA Wiring_.cells a1]),(2,.ep [.i a2]),(3,.ep [.sl .no 3 (a3.map WirePress.cells)])]) H0 g
 have hS:=St.startH (L:=([]++Lo st)) hf_ (hnd st) hp
 replace hS:St (fun i=>i<g/\i∉ids (Lo st)) H0 ([]++Lo st) H0 g:=hS
 refine Sq ?_
 refine Rg 1 ?_
 refine zbP (v:=f0) (cs:=[f0]) hS (by decide) rfl h0 (by omega) fun H hS=>?_
 refine Ni ?_
 refine zaT (L':=([]++Lo st)) 0 4 hS rfl rfl rfl fun H hS=>?_
 refine Ws ?_
 refine Rg 4 ?_
 refine Olp (pA Wiring_.cells a1) zfv zgW ?_
 refine Olp (.i a2) zac zah ?_
 refine zce (first:=[]) (cap:=[.ep [pA Wiring_.cells a1],.ep [.sl .no 3 (a3.map WirePress.cells)],.ep [f0]]) (by decide) rfl rfl ?_
 obtain ⟨r1,hr1,hM⟩:=zal hM
 replace hS:St (fun i=>i<g/\i∉ids (Lo st)) H0 ([]++Lo st) _ _:=hS
 refine zhe (bs:=[pA Wiring_.cells a1,.sl .nil 0 [],.i 0,.i a2,.fn (.func 104) [] [.ep [pA Wiring_.cells a1],.ep [.sl .no 3 (a3.map WirePress.cells)],.ep [f0]]]) (.inl rfl) hS (by decide) rfl rfl ((zg2 (Lo:=Lo)  hk hnd0 hin (aF:=(fun (x0:List WireFault) s=>zbq n aF x0 a1 a3 s)) (fun s H hH=>(.fn _ _ _ zbV (zaM (.ep _ (zaM (show Go.AM.Pure _ from zhO (fun x=>(zaa (.v _) (zaa (.v _) (zaa (.sl _ _ (zau (fun x=>(zaa (.v _) (zaa (.v _) (zaa (.v _) zaC)))))) (zaa (.v _) (zaa (.sl _ _ (zau (fun x=>(zaa (.v _) (zaa (.v _) (zaa (.v _) zaC)))))) zaC)))))) _).inH zbV)) (zaM (.ep _ (zaM (show Go.AM.Pure _ from .sl _ _ (zau (fun x=>(zaa (.v _) (zaa (.v _) (zaa (.v _) zaC)))))).inH zbV)) (zaM (.ep _ (zaM (hF _ H hH) zbV)) zbV))))) rfl (fun h=>zlb (zf5 (Lo:=Lo)  hk hnd0 hin hF h0 hf h)) hr1).le (.k (.cons (.sl0 .nil 3 0) (.k (.k (.k .nil)))))) (hk _ _).ids (by omega) fun H hS=>?_
 refine Ni ?_
 refine zcD (x:=.tup []) (f:=fun r=>.tup []) (fd:=fun r=>(Lo r.2)) (.inl rfl) ?_ (.refl _) (Option.some.inj hM) hS 0 rfl
 exact rfl
theorem zhH {n:Nat} {a0:Option Wiring_} {a1:List WirePress} {a2:Int} {r:((Option Wiring_)×Int×(List WirePress))} (hM:zd4 n a0 a1 a2=some r):zav Tryz.prog 86 [pA Wiring_.cells a0,.sl .no 3 (a1.map WirePress.cells),.i a2] (.fn (.func 102) [] [.ep [pA Wiring_.cells r.1],.ep [.i r.2.1],.ep [.sl .no 3 (r.2.2.map WirePress.cells)]]):=by
 refine zan mixed Tryz.func86 rfl (by decide) Tryz.ntmps86 (by simp) ?pure fun H0 g hf=>?_
 case pure=>exact .fn _ _ _ zaC (zaa (.ep _ (zaa (zhO (fun x=>(zaa (.v _) (zaa (.v _) (zaa (.sl _ _ (zau (fun x=>(zaa (.v _) (zaa (.v _) (zaa (.v _) zaC)))))) (zaa (.v _) (zaa (.sl _ _ (zau (fun x=>(zaa (.v _) (zaa (.v _) (zaa (.v _) zaC)))))) zaC)))))) _) zaC)) (zaa (.ep _ (zaa (.v _) zaC)) (zaa (.ep _ (zaa (.sl _ _ (zau (fun x=>(zaa (.v _) (zaa (.v _) (zaa (.v _) zaC)))))) zaC)) zaC)))
 rw [zag]
 change wpA _ _ _ _ (Fr.of [(0,pA Wiring_.cells a0),(1,.sl .no 3 (a1.map WirePress.cells)),(2,.i a2)]) H0 g
 have hS:=St.start hf
 refine Sq ?_
 refine Rg 4 ?_
 refine zbP (v:=pA Wiring_.cells a0) (cs:=[pA Wiring_.cells a0]) hS (by decide) rfl (ze6 _ _) (by omega) fun H hS=>?_
 refine zbP (v:=.sl .no 3 (a1.map WirePress.cells)) (cs:=[.sl .no 3 (a1.map WirePress.cells)]) hS (by decide) rfl rfl (by omega) fun H hS=>?_
 refine zbP (v:=.i a2) (cs:=[.i a2]) hS (by decide) rfl rfl (by omega) fun H hS=>?_
 refine Oa (.v .nilFunc) ?_
 refine Ni ?_
 refine zaT (L':=[(g+2,.cells [.i a2]),(g+1,.cells [.sl .no 3 (a1.map WirePress.cells)])]) 2 3 hS rfl rfl rfl fun H hS=>?_
 refine zaT (L':=[(g+2,.cells [.i a2])]) 1 4 hS rfl rfl rfl fun H hS=>?_
 refine zaT (L':=[]) 0 5 hS rfl rfl rfl fun H hS=>?_
 refine Ws ?_
 refine Sq ?_
 refine Rg 2 ?_
 refine zce (first:=[]) (cap:=[.ep [pA Wiring_.cells a0],.ep [.i a2],.ep [.sl .no 3 (a1.map WirePress.cells)]]) (by decide) rfl rfl ?_
 refine Oa (.fn (.func 102) [] [.ep [pA Wiring_.cells a0],.ep [.i a2],.ep [.sl .no 3 (a1.map WirePress.cells)]]) ?_
 refine Ni ?_
 refine Ws ?_
 refine zaB ?_
 refine zaO (x:=.fn (.func 102) [] [.ep [pA Wiring_.cells a0],.ep [.i a2],.ep [.sl .no 3 (a1.map WirePress.cells)]]) (f:=fun r=>.fn (.func 102) [] [.ep [pA Wiring_.cells r.1],.ep [.i r.2.1],.ep [.sl .no 3 (r.2.2.map WirePress.cells)]]) (.inr rfl) ?_ (.refl _) (Option.some.inj hM) hS
 exact (zam (zad (x:=.fn (.func 102) [] [.ep [pA Wiring_.cells a0],.ep [.i a2],.ep [.sl .no 3 (a1.map WirePress.cells)]]) rfl))
theorem zf6 {S:Type} {Lo:S->BL} (hk:∀s s',zgl (Lo s) (Lo s')) (hnd:∀s,(ids (Lo s)).Nodup) (hin:∀s,InB In (Lo s)) {aF:(List WireFault)->S->Option (Bool×S)} {f0:AV} (hF:∀s H,Has H (Lo s)->In H f0) (h0:cellsOf f0=some [f0]) (hf:∀{x0:List WireFault} {s:S} {r:Bool×S},aF x0 s=some r->zjP Tryz.prog f0 [.sl .no 3 (x0.map WireFault.cells)] (Lo s) (.b r.1) (Lo r.2)) {n:Nat} {a0:Option Wiring_} {st:S} {r:Unit×S} (hM:zc0 n aF a0 st=some r):zhv Tryz.prog 65 [pA Wiring_.cells a0,f0] (Lo st) (.tup []) (Lo r.2):=by
 have hnd0:∀s,(ids (Lo s)).Nodup:=fun s=>hnd s
 refine zbg mixed Tryz.func65 rfl (by decide) Tryz.ntmps65 (by simp) (hk _ _) (hnd st) ?pure ?cells fun H0 g hf_ hp=>?_
 case pure=>exact fun H _=>(show Go.AM.Pure _ from .tup _ zaC).inH
 case cells=>exact hin _
 rw [zag]
 change wpA _ _ _ _ (Fr.of [(0,pA Wiring_.cells a0),(1,f0)]) H0 g
 have hS:=St.startH (L:=([]++Lo st)) hf_ (hnd st) hp
 replace hS:St (fun i=>i<g/\i∉ids (Lo st)) H0 ([]++Lo st) H0 g:=hS
 have hS0:=hS
 refine zdy (n:=14) rfl (by kernel_rfl) ?_
 refine Om (pA Wiring_.cells a0) ?_
 refine Om (pA Wiring_.cells a0) ?_
 obtain ⟨x1,hx1,hM⟩:=zal hM
 refine zl5 (f:=Wiring_.cells) (p:=a0) (u:=x1) (by decide) rfl hx1 ?_
 refine Of ((Wiring_.cells x1)) zj1 ?_
 refine Of ((Wiring_.cells x1)) zeT ?_
 refine Olp (.sl .no 3 (x1.Wire.Presses.map WirePress.cells)) zft zgU ?_
 refine Om (pA Wiring_.cells a0) ?_
 obtain ⟨x2,hx2,hM⟩:=zal hM
 refine zl5 (f:=Wiring_.cells) (p:=a0) (u:=x2) (by decide) rfl hx2 ?_
 refine Of ((Wiring_.cells x2)) zj1 ?_
 refine Of ((Wiring_.cells x2)) zir ?_
 refine Olp (.i x2.Wire.Faults) zac zah ?_
 obtain ⟨r3,hr3,hM⟩:=zal hM
 refine zat (bs:=[pA Wiring_.cells a0,.sl .no 3 (x1.Wire.Presses.map WirePress.cells),.i x2.Wire.Faults]) (by decide) rfl rfl ((zhH hr3).le (.k (.k (.k .nil)))) ?_
 refine Om (f0) ?_
 obtain ⟨r4,hr4,hM⟩:=zal hM
 replace hS:St (fun i=>i<g/\i∉ids (Lo st)) H0 ([]++Lo st) _ _:=hS
 refine zhe (bs:=[f0,.ep [pA Wiring_.cells r3.1],.ep [.i r3.2.1],.ep [.sl .no 3 (r3.2.2.map WirePress.cells)]]) (.inr (by kernel_rfl)) hS (by decide) rfl rfl ((zg3 (Lo:=Lo)  hk hnd0 hin (aF:=aF) hF h0 hf hr4).le (.k (.k (.k (.k .nil))))) (hk _ _).ids (by omega) fun H hS=>?_
 refine Ni ?_
 refine zcD (x:=.tup []) (f:=fun r=>.tup []) (fd:=fun r=>(Lo r.2)) (.inl rfl) ?_ (.refl _) (Option.some.inj hM) hS 0 rfl
 exact rfl
theorem zoM {n:Nat} {a0:Wire} {a1:Bool} {r:(Option Wiring_)×Int} (hM:zjq n a0 a1=some r):zav Tryz.prog 34 [.agg (Wire.cells a0),.b a1] (.tup [pA Wiring_.cells r.1,.i r.2]):=by
 refine zan mixed Tryz.func34 rfl (by decide) Tryz.ntmps34 (by simp) ?pure fun H0 g hf=>?_
 case pure=>exact .tup _ (zaa (zhO (fun x=>(zaa (.v _) (zaa (.v _) (zaa (.sl _ _ (zau (fun x=>(zaa (.v _) (zaa (.v _) (zaa (.v _) zaC)))))) (zaa (.v _) (zaa (.sl _ _ (zau (fun x=>(zaa (.v _) (zaa (.v _) (zaa (.v _) zaC)))))) zaC)))))) _) (zaa (.v _) zaC))
 rw [zag]
 change wpA _ _ _ _ (Fr.of [(0,.agg (Wire.cells a0)),(1,.b a1)]) H0 g
 have hS:=St.start hf
 refine Sq ?_
 refine Rg 3 ?_
 refine zbP (v:=.agg (Wire.cells a0)) (cs:=(Wire.cells a0)) hS (by decide) rfl rfl (by omega) fun H hS=>?_
 refine zcj hS (by decide) znB (by omega) fun H hS=>?_
 refine zcj hS (by decide) zrz (by omega) fun H hS=>?_
 refine Ni ?_
 refine zaT (L':=[(g+2,.cells [.i 0]),(g+1,.cells [pA Wiring_.cells (none:Option Wiring_)])]) 2 2 hS rfl rfl rfl fun H hS=>?_
 refine Ws ?_
 refine Sq ?_
 refine Sq ?_
 refine Rg 3 ?_
 refine Olg (.agg (Wire.cells a0)) zcd ?_
 obtain ⟨r1,hr1,hM⟩:=zal hM
 refine zat (bs:=[.agg (Wire.cells a0)]) (by decide) rfl rfl ((zhY hr1).le (.k .nil)) ?_
 refine Oa (.i r1) ?_
 refine Ni ?_
 refine Ws ?_
 refine Sq ?_
 refine Rg 2 ?_
 refine Om (.i r1) ?_
 refine Oi (.b (r1 != 0)) ?_
 refine Ni ?_
 refine Ws ?_
 rcases bft (r1 != 0) with hb2 | hb2
 ·replace hM:=ifT hM hb2
  refine Ct hb2 ?_
  refine Sq ?_
  refine Rg 3 ?_
  refine Om (.i r1) ?_
  refine zaK (v:=pA Wiring_.cells (none:Option Wiring_)) (ns:=[pA Wiring_.cells (none:Option Wiring_)]) (L':=[(g+2,.cells [.i 0]),(g+1,.cells [pA Wiring_.cells (none:Option Wiring_)])]) 1 hS rfl rfl .no rfl (ze6 _ _) zjr nlb rfl fun H hS=>?_
  refine zaK (v:=.i r1) (ns:=[.i r1]) (L':=[(g+2,.cells [.i r1]),(g+1,.cells [pA Wiring_.cells (none:Option Wiring_)])]) 0 hS rfl rfl .no rfl rfl zkF nlb rfl fun H hS=>?_
  refine Ni ?_
  refine Ws ?_
  refine zaB ?_
  refine zak ?_
  refine zaO (x:=.tup [pA Wiring_.cells (none:Option Wiring_),.i r1]) (f:=fun r=>.tup [pA Wiring_.cells r.1,.i r.2]) (.inr rfl) ?_ (.refl _) (Option.some.inj hM) hS
  exact (zbn (zcC (x:=pA Wiring_.cells (none:Option Wiring_)) 1 hS rfl rfl (po zfv zgW)) (zcC (x:=.i r1) 0 hS rfl rfl (po zkE zmH)))
 ·replace hM:=ifF hM hb2
  refine Cf hb2 ?_
  refine zas ?_
  refine Ws ?_
  refine Sq ?_
  refine Sq ?_
  refine Rg 2 ?_
  refine Om (.b a1) ?_
  refine zdc (e:=a1) (by decide) rfl ?_
  refine Ni ?_
  refine Ws ?_
  rcases bft (!a1) with hb3 | hb3
  ·replace hM:=ifT hM hb3
   refine Ct hb3 ?_
   refine Sq ?_
   refine Rg 2 ?_
   refine zaK (v:=pA Wiring_.cells (none:Option Wiring_)) (ns:=[pA Wiring_.cells (none:Option Wiring_)]) (L':=[(g+2,.cells [.i 0]),(g+1,.cells [pA Wiring_.cells (none:Option Wiring_)])]) 1 hS rfl rfl .no rfl (ze6 _ _) zjr nlb rfl fun H hS=>?_
   refine zaK (v:=.i 1) (ns:=[.i 1]) (L':=[(g+2,.cells [.i 1]),(g+1,.cells [pA Wiring_.cells (none:Option Wiring_)])]) 0 hS rfl rfl .no rfl rfl zkF nlb rfl fun H hS=>?_
   refine Ni ?_
   refine Ws ?_
   refine zaB ?_
   refine zak ?_
   refine zaO (x:=.tup [pA Wiring_.cells (none:Option Wiring_),.i 1]) (f:=fun r=>.tup [pA Wiring_.cells r.1,.i r.2]) (.inr rfl) ?_ (.refl _) (Option.some.inj hM) hS
   exact (zbn (zcC (x:=pA Wiring_.cells (none:Option Wiring_)) 1 hS rfl rfl (po zfv zgW)) (zcC (x:=.i 1) 0 hS rfl rfl (po zkE zmH)))
  ·replace hM:=ifF hM hb3
   refine Cf hb3 ?_
   refine zas ?_
   refine Ws ?_
   refine Sq ?_
   refine Rg 4 ?_
   refine Olg (.agg (Wire.cells a0)) zcd ?_
   obtain ⟨r4,hr4,hM⟩:=zal hM
   refine zat (bs:=[.agg (Wire.cells a0)]) (by decide) rfl rfl ((ziw hr4).le (.k .nil)) ?_
   refine zcj hS (by decide) znB (by omega) fun H hS=>?_
   refine zaK (v:=pA Wiring_.cells r4) (ns:=[pA Wiring_.cells r4]) (L':=[(g+3+3+2+2+2,.cells [pA Wiring_.cells r4]),(g+2,.cells [.i 0]),(g+1,.cells [pA Wiring_.cells (none:Option Wiring_)])]) 0 hS rfl rfl .no rfl (ze6 _ _) zjr nlb rfl fun H hS=>?_
   refine Ni ?_
   refine zaT (L':=[(g+2,.cells [.i 0]),(g+1,.cells [pA Wiring_.cells (none:Option Wiring_)])]) 0 7 hS rfl rfl rfl fun H hS=>?_
   refine Ws ?_
   refine Sq ?_
   refine Sq ?_
   refine Rg 2 ?_
   refine Olp (pA Wiring_.cells r4) zfv zgW ?_
   refine zce (first:=[pA Wiring_.cells r4]) (cap:=[]) (by decide) rfl rfl ?_
   refine Ni ?_
   refine Ws ?_
   refine zap ?_
   obtain ⟨r6,hr6,hM⟩:=zal hM
   refine zsP (Lo:=fun s:(Option Wiring_)×Bool=>[(g+2,.cells [.i 0]),(g+1,.cells [pA Wiring_.cells s.1])]) (fl:=(fun s=>s.2)) (R:=fun x s b s'=>∃y,x=.sl .no 3 (y.map WireFault.cells)/\zhh r4 y s=some (b,s')) (s0:=((none:Option Wiring_),false)) (sF:=r6.2) (A:=[]) (A':=[]) (L':=[(g+2,.cells [.i 0]),(g+1,.cells [pA Wiring_.cells r6.2.1])]) [(4,.ptr (g+1) 0),(5,.ptr (g+2) 0),(7,.ep [pA Wiring_.cells r4])] [0,1] hS (by omega) rfl rfl rfl rfl (.cons rfl (.cons rfl .nil)) (by decide) rfl zd8 (fun _ _=>(zb6 (zb6 zd8))) (fun s=>(zgI (zcp (zax (.inl (.inl (.v _))) zeO) (zcp (zax (.inl (.inl (zhO (fun x=>(zaa (.v _) (zaa (.v _) (zaa (.sl _ _ (zau (fun x=>(zaa (.v _) (zaa (.v _) (zaa (.v _) zaC)))))) (zaa (.v _) (zaa (.sl _ _ (zau (fun x=>(zaa (.v _) (zaa (.v _) (zaa (.v _) zaC)))))) zaC)))))) _))) zeO) zgH)) zd3)) (fun s H hH=>(zaM (zjm hH 1 rfl) (zaM (zjm hH 0 rfl) (zaM (.ep _ (zaM (show Go.AM.Pure _ from zhO (fun x=>(zaa (.v _) (zaa (.v _) (zaa (.sl _ _ (zau (fun x=>(zaa (.v _) (zaa (.v _) (zaa (.v _) zaC)))))) (zaa (.v _) (zaa (.sl _ _ (zau (fun x=>(zaa (.v _) (zaa (.v _) (zaa (.v _) zaC)))))) zaC)))))) _).inH zbV)) zbV)))) (.k (.k (.k .nil))) rfl (by decide) rfl ?_ (fun F Lx hk1 hnd1 hin1 hF1 h01 hf1=>zf6 (Lo:=Lx)  hk1 hnd1 hin1 (aF:=zhh r4) hF1 h01 (fun h=>hf1 _ _ _ _ ⟨_,rfl,h⟩) hr6) fun H hS=>?_
   ·rintro x ⟨v5,fl⟩ b s' ⟨y1,rfl,hM⟩
    rcases bft fl with hfl | hfl
    ·subst hfl;exact nomatch (show none=some _ from hM)
    subst hfl
    replace hM:=ifF hM rfl
    refine ⟨rfl,fun H' g1 hf' hh'=>?_⟩
    have hS:=St.start hf'
    change wpA _ _ _ _ (Fr.of [(19,.sl .no 3 (y1.map WireFault.cells)),(4,.ptr (g+1) 0),(5,.ptr (g+2) 0),(7,.ep [pA Wiring_.cells r4])]) _ _
    refine zas ?_
    refine zrl (l3:=[(4,.ptr (g+1) 0),(5,.ptr (g+2) 0),(7,.ep [pA Wiring_.cells r4])]) (.k (.k (.k .nil))) hS (by omega) fun Hb H hS=>?_
    replace hS:St (fun i=>i<g1/\i∉ids [(g+2,.cells [.i 0]),(g+1,.cells [pA Wiring_.cells v5])]) Hb [(g+2,.cells [.i 0]),(g+1,.cells [pA Wiring_.cells v5])] H _:=hS
    refine zap ?_
    refine Sq ?_
    refine Rg 3 ?_
    refine Olp (pA Wiring_.cells r4) zfv zgW ?_
    refine zaK (v:=pA Wiring_.cells r4) (ns:=[pA Wiring_.cells r4]) (L':=[(g+2,.cells [.i 0]),(g+1,.cells [pA Wiring_.cells r4])]) 1 hS rfl rfl .no rfl (ze6 _ _) zjr nlb rfl fun H hS=>?_
    refine zaK (v:=.i 0) (ns:=[.i 0]) (L':=[(g+2,.cells [.i 0]),(g+1,.cells [pA Wiring_.cells r4])]) 0 hS rfl rfl .no rfl rfl zkF nlb rfl fun H hS=>?_
    refine Ni ?_
    refine Ws ?_
    refine zaB ?_
    refine zaq ?_
    injection hM with hM
    injection hM with hm1 hm2
    subst hm1 hm2
    exact zvj (hS.keep [true,true] rfl)
   rcases bft r6.2.2 with hb7 | hb7
   ·replace hM:=ifT hM hb7
    refine zvk hb7 ?_
    refine zaq ?_
    refine zak ?_
    refine zaO (x:=.tup [pA Wiring_.cells r6.2.1,.i 0]) (f:=fun r=>.tup [pA Wiring_.cells r.1,.i r.2]) (.inr rfl) ?_ (.refl _) (Option.some.inj hM) hS
    exact (zbn (zcC (x:=pA Wiring_.cells r6.2.1) 1 hS rfl rfl (po zfv zgW)) (zcC (x:=.i 0) 0 hS rfl rfl (po zkE zmH)))
   ·replace hM:=ifF hM hb7
    refine zrk hb7 ?_
    refine zae ?_
    refine Ws ?_
    refine Sq ?_
    refine Rg 2 ?_
    refine zaK (v:=pA Wiring_.cells (none:Option Wiring_)) (ns:=[pA Wiring_.cells (none:Option Wiring_)]) (L':=[(g+2,.cells [.i 0]),(g+1,.cells [pA Wiring_.cells (none:Option Wiring_)])]) 1 hS rfl rfl .no rfl (ze6 _ _) zjr nlb rfl fun H hS=>?_
    refine zaK (v:=.i 3) (ns:=[.i 3]) (L':=[(g+2,.cells [.i 3]),(g+1,.cells [pA Wiring_.cells (none:Option Wiring_)])]) 0 hS rfl rfl .no rfl rfl zkF nlb rfl fun H hS=>?_
    refine Ni ?_
    refine zej [(4,.ptr (g+1) 0),(5,.ptr (g+2) 0)] (.k (.k .nil)) ?_
    refine zaB ?_
    refine zaO (x:=.tup [pA Wiring_.cells (none:Option Wiring_),.i 3]) (f:=fun r=>.tup [pA Wiring_.cells r.1,.i r.2]) (.inr rfl) ?_ (.refl _) (Option.some.inj hM) hS
    exact (zbn (zcC (x:=pA Wiring_.cells (none:Option Wiring_)) 1 hS rfl rfl (po zfv zgW)) (zcC (x:=.i 3) 0 hS rfl rfl (po zkE zmH)))
theorem ziN {n:Nat} {a0:Option Wiring_} {a1:Int} {a2:Int} {r:(List (Int×Int))} (hM:zed n a0 a1 a2=some r):ztM Tryz.prog 35 [pA Wiring_.cells a0,.i a1,.i a2] (zbW (mpv kvI r)):=by
 refine zqd mixed Tryz.func35 rfl (by decide) Tryz.ntmps35 (by simp) fun H0 g hf=>?_
 rw [zag]
 change wpA _ _ _ _ (Fr.of [(0,pA Wiring_.cells a0),(1,.i a1),(2,.i a2)]) H0 g
 have hS:=St.start hf
 refine Sq ?_
 refine Rg 4 ?_
 refine zbP (v:=pA Wiring_.cells a0) (cs:=[pA Wiring_.cells a0]) hS (by decide) rfl (ze6 _ _) (by omega) fun H hS=>?_
 refine zbP (v:=.i a1) (cs:=[.i a1]) hS (by decide) rfl rfl (by omega) fun H hS=>?_
 refine zbP (v:=.i a2) (cs:=[.i a2]) hS (by decide) rfl rfl (by omega) fun H hS=>?_
 refine Oa (.v (.map none)) ?_
 refine Ni ?_
 refine zaT (L':=[(g+2,.cells [.i a2]),(g+1,.cells [.i a1])]) 2 3 hS rfl rfl rfl fun H hS=>?_
 refine zaT (L':=[(g+2,.cells [.i a2])]) 1 4 hS rfl rfl rfl fun H hS=>?_
 refine zaT (L':=[]) 0 5 hS rfl rfl rfl fun H hS=>?_
 refine Ws ?_
 refine Sq ?_
 refine Rg 3 ?_
 refine zrq (kv:=kvI) hS (by decide) zkG (by omega) fun H hS=>?_
 refine zcj hS (by decide) zrE (by omega) fun H hS=>?_
 refine zaK (v:=.mp (g+4+0)) (ns:=[.mp (g+4+0)]) (L':=[(g+4+1,.cells [.mp (g+4+0)]),(g+4+0,.obj none (zbW (mpv kvI ([]:List (Int×Int)))))]) 0 hS rfl rfl .no rfl rfl zs9 nlb rfl fun H hS=>?_
 refine Ni ?_
 refine zaT (L':=[(g+4+0,.obj none (zbW (mpv kvI ([]:List (Int×Int)))))]) 0 7 hS rfl rfl rfl fun H hS=>?_
 refine Ws ?_
 refine Sq ?_
 refine Sq ?_
 refine Rg 2 ?_
 refine Olp (pA Wiring_.cells a0) zfv zgW ?_
 refine zce (first:=[pA Wiring_.cells a0]) (cap:=[]) (by decide) rfl rfl ?_
 refine Ni ?_
 refine Ws ?_
 refine zap ?_
 obtain ⟨r6,hr6,hM⟩:=zal hM
 refine zpf (Lo:=fun s:(List (Int×Int))=>[(g+4+0,.obj none (zbW (mpv kvI s)))]) (R:=fun x s b s'=>∃y,x=.sl .no 3 (y.map WireFault.cells)/\zcB n a0 a1 a2 y s=some (b,s')) (s0:=([]:List (Int×Int))) (sF:=r6.2) (A:=[]) (A':=[]) (L':=[(g+4+0,.obj none (zbW (mpv kvI r6.2)))]) [(3,.ep [pA Wiring_.cells a0]),(4,.ep [.i a1]),(5,.ep [.i a2]),(7,.ep [.mp (g+4+0)])] [0] hS (by omega) rfl rfl rfl (.cons rfl .nil) (by decide) rfl zd8 (fun _ _=>(zvn zd8)) (fun s=>(zgI (zvo zgH) zd3)) (fun s H hH=>(zaM (.ep _ (zaM (show Go.AM.Pure _ from zhO (fun x=>(zaa (.v _) (zaa (.v _) (zaa (.sl _ _ (zau (fun x=>(zaa (.v _) (zaa (.v _) (zaa (.v _) zaC)))))) (zaa (.v _) (zaa (.sl _ _ (zau (fun x=>(zaa (.v _) (zaa (.v _) (zaa (.v _) zaC)))))) zaC)))))) _).inH zbV)) (zaM (.ep _ (zaM (show Go.AM.Pure _ from .v _).inH zbV)) (zaM (.ep _ (zaM (show Go.AM.Pure _ from .v _).inH zbV)) (zaM (.ep _ (zaM (zxq hH 0 rfl) zbV)) zbV))))) (.k (.k (.k (.k .nil)))) rfl (by decide) rfl ?_ (fun F Lx hk1 hnd1 hin1 hF1 h01 hf1=>zf6 (Lo:=Lx)  hk1 hnd1 hin1 (aF:=zcB n a0 a1 a2) hF1 h01 (fun h=>hf1 _ _ _ _ ⟨_,rfl,h⟩) hr6) fun H hS=>?_
 ·rintro x v1 b s' ⟨y1,rfl,hM⟩
  refine ⟨rfl,fun H' g1 hf' hh'=>?_⟩
  have hS:=St.start hf'
  change wpA _ _ _ _ (Fr.of [(12,.sl .no 3 (y1.map WireFault.cells)),(3,.ep [pA Wiring_.cells a0]),(4,.ep [.i a1]),(5,.ep [.i a2]),(7,.ep [.mp (g+4+0)])]) _ _
  refine Rg 1 ?_
  refine Oa (.sl .no 3 (y1.map WireFault.cells)) ?_
  refine Ni ?_
  refine zrl (l3:=[(3,.ep [pA Wiring_.cells a0]),(4,.ep [.i a1]),(5,.ep [.i a2]),(7,.ep [.mp (g+4+0)]),(8,.sl .no 3 (y1.map WireFault.cells))]) (.k (.k (.k (.k (.k .nil))))) hS (by omega) fun Hb H hS=>?_
  replace hS:St (fun i=>i<g1/\i∉ids [(g+4+0,.obj none (zbW (mpv kvI v1)))]) Hb [(g+4+0,.obj none (zbW (mpv kvI v1)))] H _:=hS
  refine zap ?_
  have hS0:=hS
  refine zdy (n:=10) rfl (by kernel_rfl) ?_
  refine Olp (.mp (g+4+0)) zpt zrD ?_
  refine Olp (pA Wiring_.cells a0) zfv zgW ?_
  refine Om (.sl .no 3 (y1.map WireFault.cells)) ?_
  obtain ⟨r2,hr2,hM⟩:=zal hM
  refine zat (bs:=[.sl .no 3 (y1.map WireFault.cells)]) (by decide) rfl rfl ((ziz hr2).le (.k .nil)) ?_
  refine Olp (.i a1) zac zah ?_
  refine Olp (.i a2) zac zah ?_
  obtain ⟨r3,hr3,hM⟩:=zal hM
  refine zat (bs:=[pA Wiring_.cells a0,.agg (Panel_.cells r2),.i a1,.i a2]) (by decide) rfl rfl ((zeN hr3).le (.k (.k (.k (.k .nil))))) ?_
  obtain ⟨x4,hx4,hM⟩:=zal hM
  refine zsV (kv:=kvI) (ok:=okI) (M:=v1) (k:=r3) (u:=x4) 0 zwe hS (by decide) rfl rfl rfl (.st hS0 0 rfl (by omega)) zkG zrF hx4 ?_
  refine Oi (.i (w64 (x4+1))) ?_
  obtain ⟨l5,hl5,hM⟩:=zal hM
  refine zoC (kv:=kvI) (ok:=okI) (M:=v1) (k:=r3) (v:=(w64 (x4+1))) (M':=l5) (L':=[(g+4+0,.obj none (zbW (mpv kvI l5)))]) 0 zwe (.inr (by kernel_rfl)) hS rfl rfl rfl rfl zkG zrF hl5 rfl fun H hS=>?_
  refine Ni ?_
  refine zae ?_
  injection hM with hM
  injection hM with hm1 hm2
  subst hm1 hm2
  exact ztK (hS.keep [true] rfl)
 refine zae ?_
 refine Ws ?_
 refine Sq ?_
 refine Rg 2 ?_
 refine Olp (.mp (g+4+0)) zpt zrD ?_
 refine Oa (.mp (g+4+0)) ?_
 refine Ni ?_
 refine Ws ?_
 refine zaB ?_
 obtain rfl:=Option.some.inj hM
 exact zuj 0 (.inr rfl) (zam (zad (x:=.mp (g+4+0)) rfl)) hS rfl rfl
theorem zmP {n:Nat} {a0:Wire} {a1:Int} {a2:Int} {r:List Int×Int} (hM:zhT n a0 a1 a2=some r):zav Tryz.prog 11 [.agg (Wire.cells a0),.i a1,.i a2] (.tup [.sl .no 1 (r.1.map cI),.i r.2]):=by
 refine zoD (zs:=r.1) (y:=.int .i64 r.2) (e:=3) mixed Tryz.func11 rfl (by decide) Tryz.ntmps11 (by simp) ?pa fun G0 w0 C hC=>?_
 case pa=>exact zaa (.agg _ (zaa (.v _) (zaa (.v _) (zaa (.sl _ _ (zau (fun x=>(zaa (.v _) (zaa (.v _) (zaa (.v _) zaC)))))) (zaa (.v _) zaC))))) (zaa (.v _) (zaa (.v _) zaC))
 rw [zag]
 refine (?_:∀g,zbB E0 g->Snd _ _ _ _ _ _ (Fr.of [(0,.agg (Wire.cells a0)),(1,.i a1),(2,.i a2)]) E0 g) 0 (fun _ _=>rfl)
 intro g hf
 have hS:=St.start hf
 refine zhq mixed hC ?_
 refine Rg 3 ?_
 refine zbP (v:=.agg (Wire.cells a0)) (cs:=(Wire.cells a0)) hS (by decide) rfl rfl (by omega) fun H hS=>?_
 refine Oa (.sl .nil 0 []) ?_
 refine Oa (.i 0) ?_
 refine Ni ?_
 refine zgJ (l':=[(1,.i a1),(2,.i a2),(3,.ptr (g+0) 0)]) (.k (.k (.k .nil))) ?_
 refine zhq mixed hC ?_
 have hS0:=hS
 refine zdy (n:=11) rfl (by kernel_rfl) ?_
 refine zaW (v:=.agg (Wire.cells a0)) 0 hS (by decide) rfl rfl (.lt (by omega)) (pg zcd) ?_
 refine zaW (v:=.agg (Wire.cells a0)) 0 hS (by decide) rfl rfl (.lt (by omega)) (pg zcd) ?_
 refine Om (.i a1) ?_
 refine Om (.i a2) ?_
 obtain ⟨r1,hr1,hM⟩:=zal hM
 refine zat (bs:=[.agg (Wire.cells a0),.i a1,.i a2]) (by decide) rfl rfl ((zg0 hr1).le (.k (.k (.k .nil)))) ?_
 obtain ⟨r2,hr2,hM⟩:=zal hM
 refine zat (bs:=[.agg (Wire.cells a0),.b r1]) (by decide) rfl rfl ((zoM hr2).le (.k (.k .nil))) ?_
 refine Om (.tup [pA Wiring_.cells r2.1,.i r2.2]) ?_
 refine Ox (pA Wiring_.cells r2.1) ?_
 refine Ox (.i r2.2) ?_
 refine Oa (pA Wiring_.cells r2.1) ?_
 refine Oa (.i r2.2) ?_
 refine Ni ?_
 replace hS:=hS0
 refine zgJ (l':=[(1,.i a1),(2,.i a2),(8,pA Wiring_.cells r2.1),(9,.i r2.2)]) (.k (.k (.k (.k .nil)))) ?_
 refine zhq mixed hC ?_
 refine Sq ?_
 refine Rg 2 ?_
 refine Om (.i r2.2) ?_
 refine Oi (.b (r2.2 != 0)) ?_
 refine Ni ?_
 refine Ws ?_
 rcases bft (r2.2 != 0) with hb3 | hb3
 ·replace hM:=ifT hM hb3
  refine Ct hb3 ?_
  refine Sq ?_
  refine Rg 3 ?_
  refine Om (.i r2.2) ?_
  refine Oa (.sl .nil 0 []) ?_
  refine Oa (.i r2.2) ?_
  refine Ni ?_
  refine Ws ?_
  refine zaB ?_
  refine zak ?_
  have hr:=Option.some.inj hM
  subst hr
  exact ⟨.inr rfl,.inr ⟨rfl,zbn (zad (x:=.sl .nil 0 []) rfl) (zad (x:=.i r2.2) rfl)⟩⟩
 ·replace hM:=ifF hM hb3
  refine Cf hb3 ?_
  refine zas ?_
  refine zgJ (l':=[(1,.i a1),(2,.i a2),(8,pA Wiring_.cells r2.1)]) (.k (.k (.k .nil))) ?_
  refine zhq mixed hC ?_
  refine Rg 1 ?_
  refine Oa (.sl .nil 0 []) ?_
  refine Ni ?_
  refine zgJ (l':=[(1,.i a1),(2,.i a2),(8,pA Wiring_.cells r2.1),(10,.sl .nil 0 [])]) (.k (.k (.k (.k .nil)))) ?_
  refine zhq mixed hC ?_
  refine Sq ?_
  refine Rg 5 ?_
  refine Om (pA Wiring_.cells r2.1) ?_
  refine Om (.i a1) ?_
  refine Om (.i a2) ?_
  obtain ⟨m,hm,hM⟩:=zal hM
  rcases bft (decide (m.length<=1048576)) with hbm | hbm
  rotate_left
  ·exact nomatch (ifF hM hbm)
  replace hM:=ifT hM hbm
  have hml:m.length<=1048576:=of_decide_eq_true hbm
  have hr:=Option.some.inj hM
  refine zsW (bs:=[pA Wiring_.cells r2.1,.i a1,.i a2]) (p:=zbW (mpv kvI m)) hS (by decide) rfl rfl ((ziN hm).le (.k (.k (.k .nil)))) (zaa (zhO (fun x=>(zaa (.v _) (zaa (.v _) (zaa (.sl _ _ (zau (fun x=>(zaa (.v _) (zaa (.v _) (zaa (.v _) zaC)))))) (zaa (.v _) (zaa (.sl _ _ (zau (fun x=>(zaa (.v _) (zaa (.v _) (zaa (.v _) zaC)))))) zaC)))))) _) (zaa (.v _) (zaa (.v _) zaC))) (by omega) fun H hS=>?_
  refine zuk (m:=mpv kvI m) 0 hS (by decide) rfl rfl zkG (by omega) fun a H hS=>?_
  refine Ni ?_
  refine zq2 [(10,.sl (.id (g+3+11+2+1+5)) 1 (([]:List Int).map cI)),(28,.it (g+3+11+2+1+4) (g+3+11+2+1+3) a)] 10 1 3 hS (by omega) (by decide) rfl (.k (.k .nil)) fun H hS=>?_
  refine zap ?_
  refine zbI (V:=List Int×List Nat) (fun v=>[(10,.sl (.id (g+3+11+2+1+5)) 1 (v.1.map cI)),(28,.it (g+3+11+2+1+4) (g+3+11+2+1+3) a)]) (fun v k H' g'=>St (·<g) E0 [((g+3+11+2+1+5),.row 3 v.1.length),((g+3+11+2+1+4),.obj none (zn4 a (mpv kvI m).length v.2.toArray)),((g+3+11+2+1+3),.obj none (zbW (mpv kvI m))),(g+0,.cells (Wire.cells a0))] H' g'/\SeenOk m.length v.2/\k=m.length-v.2.length/\v.1=v.2.map fun e=>(m.getD e (0,0)).1) (n:=m.length) ([],[]) (.k (.k .nil)) ⟨hS.up (by omega),SeenOk.nil _,rfl,rfl⟩ ?_
  rintro ⟨v,q⟩ k H g2 ⟨hS,hq,hk,hv⟩
  change wpA _ _ _ _ (Fr.of [(10,.sl (.id (g+3+11+2+1+5)) 1 (v.map cI)),(28,.it (g+3+11+2+1+4) (g+3+11+2+1+3) a)]) _ _
  replace hS:St (·<g) E0 [((g+3+11+2+1+5),.row 3 v.length),((g+3+11+2+1+4),.obj none (zn4 a (mpv kvI m).length q.toArray)),((g+3+11+2+1+3),.obj none (zbW (mpv kvI m))),(g+0,.cells (Wire.cells a0))] H g2:=hS
  replace hq:SeenOk m.length q:=hq
  replace hv:v=q.map fun e=>(m.getD e (0,0)).1:=hv
  replace hk:k=m.length-q.length:=hk
  have hvl:v.length=q.length:=by rw [hv,List.length_map]
  refine Sq ?_
  refine Rg 2 ?_
  refine zvp 1 2 hS (by decide) rfl rfl rfl ?_ ?_
  ·intro hall
   rw [zun] at hall
   refine Ox (.b false) ?_
   refine Ni ?_
   refine Ws ?_
   refine Sq ?_
   refine zot (e:=false) rfl rfl ?_
   refine zbw ?_
   refine zar ?_
   refine zao ?_
   refine zaw ?_
   have hj:=(hS.has ((g+3+11+2+1+5),.row 3 v.length) (by simp)).2.2
   have hvs:zi3 v=r.1:=by
    rw [←hr,hv]
    exact zrt m (0,0) (hq.perm hall)
   have hlen:v.length<=1048576:=by have:=hq.le;omega
   refine zgJ (l':=[(10,.sl (.id (g+3+11+2+1+5)) 1 (v.map cI))]) (.k .nil) ?_
   refine zsZ (zs:=v) (ts:=zi3 v) (j:=(g+3+11+2+1+5)) (e:=3) (by decide) (by decide) (by decide) (by decide) (by decide) rfl hj (zrN v hlen) ?_
   refine ztO mixed hC ?_
   refine Sq ?_
   refine Rg 3 ?_
   refine Om (.sl (.id (g+3+11+2+1+5)) 1 (zaY (zi3 v))) ?_
   refine Oa (.sl (.id (g+3+11+2+1+5)) 1 (zaY (zi3 v))) ?_
   refine Oa (.i 0) ?_
   refine Ni ?_
   refine Ws ?_
   refine zaB ?_
   have h2:r.2=0:=by rw [←hr]
   rw [hvs] at *
   refine ⟨.inr rfl,.inl ⟨_,?_,zab.set_same _ _ _⟩⟩
   rw [h2]
   exact zbn (zad (x:=.sl (.id (g+3+11+2+1+5)) 1 (zaY r.1)) rfl) (zad (x:=.i 0) rfl)
  ·intro e p H hp hs hS
   obtain ⟨x,hx,rfl⟩:=zum hp
   have hlt:=(List.getElem?_eq_some_iff.1 hx).1
   refine Ox (.b true) ?_
   refine Ni ?_
   refine Ws ?_
   refine Sq ?_
   refine zq4 (e:=true) rfl rfl ?_
   refine zas ?_
   refine Ws ?_
   refine zap ?_
   refine Sq ?_
   refine Rg 3 ?_
   refine zul (p:=(kvI x.1,.int .i64 x.2)) 1 2 hS (by decide) rfl rfl rfl hp ?_
   refine Ox (.i x.1) ?_
   refine Oa (.i x.1) ?_
   refine Ni ?_
   refine Ws ?_
   have hq':=hq.push hlt hs
   have hle:=hq'.le
   rw [List.length_append,List.length_singleton] at hle
   have happ:app v [x.1]=some (v++[x.1]):=by
    unfold app
    rw [if_pos (by simp;omega)]
   refine Rg 5 ?_
   refine Om (.sl (.id (g+3+11+2+1+5)) 1 (v.map cI)) ?_
   refine Om (.i x.1) ?_
   refine zaX (es:=[[.i x.1]]) (hS.up (by omega)) (by decide) zbi zes rfl zet rfl (by decide) (Nat.le_refl _) fun H hS=>?_
   refine zdd (xs:=v) (ys:=([x.1]:List Int)) (zs:=v++[x.1]) (f:=cI) (L':=[(_,.row 3 1),((g+3+11+2+1+5),.row 3 (v++[x.1]).length),((g+3+11+2+1+4),.obj none (zn4 a (mpv kvI m).length (q.toArray.push e))),((g+3+11+2+1+3),.obj none (zbW (mpv kvI m))),(g+0,.cells (Wire.cells a0))]) 1 hS (by decide) rfl rfl rfl rfl .no zbi zes zet happ rfl fun H hS=>?_
   refine Oa (.sl (.id (g+3+11+2+1+5)) 1 ((v++[x.1]).map cI)) ?_
   refine Ni ?_
   refine zae ?_
   refine za4 (v++[x.1],q++[e]) (m:=m.length-(q++[e]).length) (by rw [List.length_append,List.length_singleton];omega) (.k (.k .nil)) ⟨?_,hq',rfl,?_⟩
   ·have hS:=hS.keep (L':=[((g+3+11+2+1+5),.row 3 (v++[x.1]).length),((g+3+11+2+1+4),.obj none (zn4 a (mpv kvI m).length (q.toArray.push e))),((g+3+11+2+1+3),.obj none (zbW (mpv kvI m))),(g+0,.cells (Wire.cells a0))]) [false,true,true,true,true] rfl
    rw [List.push_toArray] at hS
    exact hS.up (by omega)
   ·rw [List.map_append,←hv]
    simp [List.getD_eq_getElem?_getD,hx]
theorem zql {n:Nat} {a0:List Int} {a1:Int} {r:Bool} (hM:zkD n a0 a1=some r):zav Tryz.prog 12 [.sl .no 1 (a0.map cI),.i a1] (.b r):=by
 refine zan mixed Tryz.func12 rfl (by decide) Tryz.ntmps12 (by simp) ?pure fun H0 g hf=>?_
 case pure=>exact .v _
 rw [zag]
 change wpA _ _ _ _ (Fr.of [(0,.sl .no 1 (a0.map cI)),(1,.i a1)]) H0 g
 have hS:=St.start hf
 refine Sq ?_
 refine Rg 1 ?_
 refine Oa (.b false) ?_
 refine Ni ?_
 refine Ws ?_
 refine zaF (J:=Unit) (fun j=>[]) (fun j H' g'=>St (·<g) H0 [] H' g'/\zhU=some r) ?_ ?_
 ·rintro _ H g1 ⟨hS,hM⟩
  change wpA _ _ _ _ (Fr.of []) _ _
  replace hS:St (·<g) H0 [] H g1:=hS
  replace hM:zhU=some r:=hM
  refine Sq ?_
  refine Rg 1 ?_
  refine Oa (.b false) ?_
  refine Ni ?_
  refine Ws ?_
  refine zaB ?_
  refine zaO (x:=.b false) (f:=fun r=>.b r) (.inr rfl) ?_ (.refl _) (Option.some.inj hM) hS
  exact (zam (zad (x:=.b false) rfl))
 ·refine Sq ?_
  refine Rg 1 ?_
  refine Oa (.i 0) ?_
  refine Ni ?_
  refine Ws ?_
  refine zap ?_
  refine zbI (V:=Int) (fun v=>[(0,.sl .no 1 (a0.map cI)),(1,.i a1),(5,.i v)]) (fun v m2 H' g'=>St (·<g) H0 [] H' g'/\ze3 a0 a1 m2 v=some r) (n:=n) 0 (.k (.k (.k .nil))) ⟨(hS.keep [] rfl).up (by omega),hM⟩ ?_
  rintro v1 m2 H g2 ⟨hS,hM⟩
  obtain _ | m2:=m2
  ·exact nomatch (show none=some _ from hM)
  change wpA _ _ _ _ (Fr.of [(0,.sl .no 1 (a0.map cI)),(1,.i a1),(5,.i v1)]) _ _
  replace hS:St (·<g) H0 [] H g2:=hS
  replace hM:zgy a0 a1 (ze3 a0 a1 m2) v1=some r:=hM
  refine Sq ?_
  refine Sq ?_
  refine Rg 4 ?_
  refine Om (.i v1) ?_
  refine Om (.sl .no 1 (a0.map cI)) ?_
  refine zco (n:=a0.length) (by decide) rfl (List.length_map _) zbc ?_
  refine Oi (.b (decide (v1<(a0.length:Int)))) ?_
  refine Ni ?_
  refine Ws ?_
  rcases bft (decide (v1<(a0.length:Int))) with hb2 | hb2
  ·replace hM:=ifT hM hb2
   refine Ct hb2 ?_
   refine zas ?_
   refine Ws ?_
   refine Sq ?_
   refine zap ?_
   refine Sq ?_
   refine Rg 6 ?_
   refine Om (.sl .no 1 (a0.map cI)) ?_
   refine Om (.i v1) ?_
   obtain ⟨x3,hx3,hM⟩:=zal hM
   refine zbj (xs:=a0) (f:=cI) (z:=v1) (u:=x3) (by decide) rfl rfl zbi hx3 ?_
   refine Olp (.i x3) zac zah ?_
   refine Om (.i a1) ?_
   refine Oi (.b (x3==a1)) ?_
   refine Ni ?_
   refine Ws ?_
   rcases bft (x3==a1) with hb4 | hb4
   ·replace hM:=ifT hM hb4
    refine Ct hb4 ?_
    refine Sq ?_
    refine Rg 1 ?_
    refine Oa (.b true) ?_
    refine Ni ?_
    refine Ws ?_
    refine zaB ?_
    refine zaq ?_
    refine zak ?_
    refine zaL ?_
    refine zaq ?_
    refine zaI ?_
    refine zaO (x:=.b true) (f:=fun r=>.b r) (.inr rfl) ?_ (.refl _) (Option.some.inj hM) hS
    exact (zam (zad (x:=.b true) rfl))
   ·replace hM:=ifF hM hb4
    refine Cf hb4 ?_
    refine zas ?_
    refine zae ?_
    refine Ws ?_
    refine Rg 3 ?_
    refine Om (.i v1) ?_
    refine Oi (.i (w64 (v1+1))) ?_
    refine Oa (.i (w64 (v1+1))) ?_
    refine Ni ?_
    exact za4 (w64 (v1+1)) (Nat.lt_succ_self _) (.k (.k (.k .nil))) ⟨(hS.keep [] rfl).up (by omega),hM⟩
  ·replace hM:=ifF hM hb2
   refine Cf hb2 ?_
   refine zbw ?_
   refine zar ?_
   refine zao ?_
   refine zaw ?_
   exact zai () .nil ⟨(hS.keep [] rfl).up (by omega),hM⟩
theorem zlm {n:Nat} {a0:Pulse} {a1:Dial} {r:Bool} (hM:zhV n a0 a1=some r):zav Tryz.prog 3 [.agg (Pulse.cells a0),.agg (Dial.cells a1)] (.b r):=by
 refine zan mixed Tryz.func3 rfl (by decide) Tryz.ntmps3 (by simp) ?pure fun H0 g hf=>?_
 case pure=>exact .v _
 rw [zag]
 change wpA _ _ _ _ (Fr.of [(0,.agg (Pulse.cells a0)),(1,.agg (Dial.cells a1))]) H0 g
 have hS:=St.start hf
 refine Sq ?_
 refine Rg 3 ?_
 refine zbP (v:=.agg (Pulse.cells a0)) (cs:=(Pulse.cells a0)) hS (by decide) rfl rfl (by omega) fun H hS=>?_
 refine zbP (v:=.agg (Dial.cells a1)) (cs:=(Dial.cells a1)) hS (by decide) rfl rfl (by omega) fun H hS=>?_
 refine Oa (.b false) ?_
 refine Ni ?_
 refine zaT (L':=[(g+0,.cells (Pulse.cells a0))]) 0 3 hS rfl rfl rfl fun H hS=>?_
 refine Ws ?_
 refine Sq ?_
 refine zaF (J:=Bool) (fun j=>[(2,.ptr (g+0) 0),(3,.ep (Dial.cells a1)),(50,.b j)]) (fun j H' g'=>St (·<g) H0 [(g+0,.cells (Pulse.cells a0))] H' g'/\zbk n a0 a1 j=some r) ?_ ?_
 ·rintro v1 H g1 ⟨hS,hM⟩
  change wpA _ _ _ _ (Fr.of [(2,.ptr (g+0) 0),(3,.ep (Dial.cells a1)),(50,.b v1)]) _ _
  replace hS:St (·<g) H0 [(g+0,.cells (Pulse.cells a0))] H g1:=hS
  replace hM:zbk n a0 a1 v1=some r:=hM
  rcases bft v1 with hb2 | hb2
  ·replace hM:=ifT hM hb2
   refine Ct hb2 ?_
   refine Sq ?_
   refine Rg 2 ?_
   obtain ⟨r3,hr3,hM⟩:=zal hM
   refine zat (bs:=[]) (by decide) rfl rfl ((ziu hr3).le .nil) ?_
   refine Oa (.b r3) ?_
   refine Ni ?_
   replace hS:=hS.keep (L':=[]) [false] rfl
   refine Ws ?_
   refine zaB ?_
   refine zak ?_
   refine zaO (x:=.b r3) (f:=fun r=>.b r) (.inr rfl) ?_ (.refl _) (Option.some.inj hM) hS
   exact (zam (zad (x:=.b r3) rfl))
  ·replace hM:=ifF hM hb2
   refine Cf hb2 ?_
   refine zas ?_
   refine Ws ?_
   refine Sq ?_
   have hS0:=hS
   refine zor (n:=10) [(58,56)] rfl (by kernel_rfl) (by kernel_rfl) ?_
   refine Of ((Dial.cells a1)) zgY ?_
   refine Of ((Dial.cells a1)) zdX ?_
   refine Olp (.i a1.Wire.Letters) zac zah ?_
   refine Of ((Dial.cells a1)) zgY ?_
   refine Of ((Dial.cells a1)) zdp ?_
   refine Olp (.i a1.Wire.Numbers) zac zah ?_
   refine zaJ (by decide) zgX rfl ?_
   refine zaK (v:=.i a1.Wire.Letters) (ns:=[.i a1.Wire.Letters]) (L':=[(g+0,.cells [.i a1.Wire.Letters,.i a0.Numbers,.i a0.Pitch,.i a0.Slack,.i a0.Gap,.i a0.Pause,.i a0.Sparks,.sl .no 1 (a0.Times.map cI)])]) 0 hS rfl rfl (.st hS0 0 rfl (by omega)) rfl rfl zfs nlb rfl fun H hS=>?_
   refine zaJ (by decide) zdo rfl ?_
   refine zaK (v:=.i a1.Wire.Numbers) (ns:=[.i a1.Wire.Numbers]) (L':=[(g+0,.cells [.i a1.Wire.Letters,.i a1.Wire.Numbers,.i a0.Pitch,.i a0.Slack,.i a0.Gap,.i a0.Pause,.i a0.Sparks,.sl .no 1 (a0.Times.map cI)])]) 0 hS rfl rfl (.st hS0 0 rfl (by omega)) rfl rfl zfs nlb rfl fun H hS=>?_
   refine Ni ?_
   refine ⟨(zkz trivial zoz),?_⟩
   refine Ws ?_
   refine Sq ?_
   refine Rg 10 ?_
   refine zaW (v:=.agg [.i a1.Wire.Letters,.i a1.Wire.Numbers,.i a0.Pitch,.i a0.Slack,.i a0.Gap,.i a0.Pause,.i a0.Sparks,.sl .no 1 (a0.Times.map cI)]) 0 hS (by decide) rfl rfl .no (pg zbM) ?_
   refine Of ((Dial.cells a1)) zis ?_
   refine Olp (.sl .no 1 (a1.List_.map cI)) zbr zcc ?_
   obtain ⟨r4,hr4,hM⟩:=zal hM
   refine zat (bs:=[.agg [.i a1.Wire.Letters,.i a1.Wire.Numbers,.i a0.Pitch,.i a0.Slack,.i a0.Gap,.i a0.Pause,.i a0.Sparks,.sl .no 1 (a0.Times.map cI)],.sl .no 1 (a1.List_.map cI)]) (by decide) rfl rfl ((zqk hr4).le (.k (.k .nil))) ?_
   refine Om (.tup [.agg (Pulse.cells r4.1),.i r4.2]) ?_
   refine Ox (.agg (Pulse.cells r4.1)) ?_
   refine Ox (.i r4.2) ?_
   refine zcj hS (by decide) zhD (by omega) fun H hS=>?_
   refine zaK (v:=.agg (Pulse.cells r4.1)) (ns:=(Pulse.cells r4.1)) (L':=[(g1+10+7,.cells (Pulse.cells r4.1)),(g+0,.cells [.i a1.Wire.Letters,.i a1.Wire.Numbers,.i a0.Pitch,.i a0.Slack,.i a0.Gap,.i a0.Pause,.i a0.Sparks,.sl .no 1 (a0.Times.map cI)])]) 0 hS rfl rfl .no rfl rfl zhi nlb rfl fun H hS=>?_
   refine Oa (.i r4.2) ?_
   refine Ni ?_
   refine zaT (L':=[(g+0,.cells [.i a1.Wire.Letters,.i a1.Wire.Numbers,.i a0.Pitch,.i a0.Slack,.i a0.Gap,.i a0.Pause,.i a0.Sparks,.sl .no 1 (a0.Times.map cI)])]) 0 5 hS rfl rfl rfl fun H hS=>?_
   refine Ws ?_
   refine Sq ?_
   refine Sq ?_
   refine Rg 2 ?_
   refine Om (.i r4.2) ?_
   refine Oi (.b (decide (r4.2<1))) ?_
   refine Ni ?_
   refine Ws ?_
   rcases bft (decide (r4.2<1)) with hb5 | hb5
   ·replace hM:=ifT hM hb5
    refine Ct hb5 ?_
    refine zaF (J:=Bool) (fun j=>[(4,.b j)]) (fun j H' g'=>St (·<g) H0 [] H' g'/\ze1 j=some r) ?_ ?_
    ·rintro v6 H g2 ⟨hS,hM⟩
     change wpA _ _ _ _ (Fr.of [(4,.b v6)]) _ _
     replace hS:St (·<g) H0 [] H g2:=hS
     replace hM:ze1 v6=some r:=hM
     refine zaB ?_
     refine zak ?_
     refine zaO (x:=.b v6) (f:=fun r=>.b r) (.inr rfl) ?_ (.refl _) (Option.some.inj hM) hS
     exact (zam (zad (x:=.b v6) rfl))
    ·refine Rg 6 ?_
     refine Om (.i r4.2) ?_
     refine Oi (.b (r4.2==0)) ?_
     refine Om (.b (r4.2==0)) ?_
     rcases bft (r4.2==0) with hb7 | hb7
     ·replace hM:=ifT hM hb7
      refine Oy (want:=true) hb7 ?_
      obtain ⟨r8,hr8,hM⟩:=zal hM
      refine zat (bs:=[]) (by decide) rfl rfl ((ziu hr8).le .nil) ?_
      refine Pt (.b r8) hb7 ?_
      refine Oa (.b r8) ?_
      refine Ni ?_
      exact zai r8 (.k .nil) ⟨(hS.keep [false] rfl).up (by omega),hM⟩
     ·replace hM:=ifF hM hb7
      refine On (want:=true) hb7 ?_
      refine Pf (.b false) hb7 ?_
      refine Oa (.b false) ?_
      refine Ni ?_
      exact zai false (.k .nil) ⟨(hS.keep [false] rfl).up (by omega),hM⟩
   ·replace hM:=ifF hM hb5
    refine Cf hb5 ?_
    refine zas ?_
    refine Ws ?_
    refine Sq ?_
    have hS0:=hS
    refine zdy (n:=11) rfl (by kernel_rfl) ?_
    refine Olg (.agg (Pulse.cells r4.1)) zbM ?_
    refine zaX (es:=[]) hS (by decide) zbH zd5 rfl zd6 rfl (by decide) (by omega) fun H hS=>?_
    refine Of ((Dial.cells a1)) zjv ?_
    refine Olp (.sl .no 3 (a1.Faults.map WireFault.cells)) zfu zgV ?_
    obtain ⟨l9,hl9,hM⟩:=zal hM
    refine zdd (xs:=([]:List WireFault)) (ys:=a1.Faults) (zs:=l9) (f:=WireFault.cells) (L':=[(g1+10+10+2+1,.row 82 l9.length),(g+0,.cells [.i a1.Wire.Letters,.i a1.Wire.Numbers,.i a0.Pitch,.i a0.Slack,.i a0.Gap,.i a0.Pause,.i a0.Sparks,.sl .no 1 (a0.Times.map cI)])]) 0 hS (by decide) rfl rfl rfl rfl (.behind (by kernel_rfl)) zbH zd5 zd6 hl9 rfl fun H hS=>?_
    obtain ⟨r10,hr10,hM⟩:=zal hM
    refine zat (bs:=[.agg (Pulse.cells r4.1),.sl (.id (g1+10+10+2+1)) 3 (l9.map WireFault.cells)]) (by decide) rfl rfl ((zlH hr10).le (.k (.cons (.sl _ _ _) .nil))) ?_
    refine Om (.tup [.sl .no 1 (r10.1.map cI),.i r10.2]) ?_
    refine Ox (.sl .no 1 (r10.1.map cI)) ?_
    refine Ox (.i r10.2) ?_
    refine Oa (.sl .no 1 (r10.1.map cI)) ?_
    refine Oa (.i r10.2) ?_
    refine Ni ?_
    replace hS:=hS.keep (L':=[(g+0,.cells [.i a1.Wire.Letters,.i a1.Wire.Numbers,.i a0.Pitch,.i a0.Slack,.i a0.Gap,.i a0.Pause,.i a0.Sparks,.sl .no 1 (a0.Times.map cI)])]) [false,true] rfl
    refine Ws ?_
    refine Sq ?_
    refine zaF (J:=Bool) (fun j=>[(2,.ptr (g+0) 0),(3,.ep (Dial.cells a1)),(7,.sl .no 1 (r10.1.map cI)),(92,.b j)]) (fun j H' g'=>St (·<g) H0 [(g+0,.cells [.i a1.Wire.Letters,.i a1.Wire.Numbers,.i a0.Pitch,.i a0.Slack,.i a0.Gap,.i a0.Pause,.i a0.Sparks,.sl .no 1 (a0.Times.map cI)])] H' g'/\zdV n a1 r10 j=some r) ?_ ?_
    ·rintro v11 H g3 ⟨hS,hM⟩
     change wpA _ _ _ _ (Fr.of [(2,.ptr (g+0) 0),(3,.ep (Dial.cells a1)),(7,.sl .no 1 (r10.1.map cI)),(92,.b v11)]) _ _
     replace hS:St (·<g) H0 [(g+0,.cells [.i a1.Wire.Letters,.i a1.Wire.Numbers,.i a0.Pitch,.i a0.Slack,.i a0.Gap,.i a0.Pause,.i a0.Sparks,.sl .no 1 (a0.Times.map cI)])] H g3:=hS
     replace hM:zdV n a1 r10 v11=some r:=hM
     rcases bft v11 with hb12 | hb12
     ·replace hM:=ifT hM hb12
      refine Ct hb12 ?_
      refine Sq ?_
      refine Rg 1 ?_
      refine Oa (.b false) ?_
      refine Ni ?_
      replace hS:=hS.keep (L':=[]) [false] rfl
      refine Ws ?_
      refine zaB ?_
      refine zak ?_
      refine zaO (x:=.b false) (f:=fun r=>.b r) (.inr rfl) ?_ (.refl _) (Option.some.inj hM) hS
      exact (zam (zad (x:=.b false) rfl))
     ·replace hM:=ifF hM hb12
      refine Cf hb12 ?_
      refine zas ?_
      refine Ws ?_
      refine zaF (J:=Unit) (fun j=>[]) (fun j H' g'=>St (·<g) H0 [] H' g'/\ze2 n=some r) ?_ ?_
      ·rintro _ H g4 ⟨hS,hM⟩
       change wpA _ _ _ _ (Fr.of []) _ _
       replace hS:St (·<g) H0 [] H g4:=hS
       replace hM:ze2 n=some r:=hM
       refine Sq ?_
       refine Rg 2 ?_
       obtain ⟨r13,hr13,hM⟩:=zal hM
       refine zat (bs:=[]) (by decide) rfl rfl ((ziu hr13).le .nil) ?_
       refine Oa (.b r13) ?_
       refine Ni ?_
       refine Ws ?_
       refine zaB ?_
       refine zaO (x:=.b r13) (f:=fun r=>.b r) (.inr rfl) ?_ (.refl _) (Option.some.inj hM) hS
       exact (zam (zad (x:=.b r13) rfl))
      ·refine Sq ?_
       refine Rg 1 ?_
       refine Oa (.i 0) ?_
       refine Ni ?_
       refine Ws ?_
       refine zap ?_
       refine zbI (V:=Int) (fun v=>[(2,.ptr (g+0) 0),(3,.ep (Dial.cells a1)),(7,.sl .no 1 (r10.1.map cI)),(9,.i v)]) (fun v m5 H' g'=>St (·<g) H0 [(g+0,.cells [.i a1.Wire.Letters,.i a1.Wire.Numbers,.i a0.Pitch,.i a0.Slack,.i a0.Gap,.i a0.Pause,.i a0.Sparks,.sl .no 1 (a0.Times.map cI)])] H' g'/\zbT n a1 r10 m5 v=some r) (n:=n) 0 (.k (.k (.k (.k .nil)))) ⟨(hS.keep [true] rfl).up (by omega),hM⟩ ?_
       rintro v14 m5 H g5 ⟨hS,hM⟩
       obtain _ | m5:=m5
       ·exact nomatch (show none=some _ from hM)
       change wpA _ _ _ _ (Fr.of [(2,.ptr (g+0) 0),(3,.ep (Dial.cells a1)),(7,.sl .no 1 (r10.1.map cI)),(9,.i v14)]) _ _
       replace hS:St (·<g) H0 [(g+0,.cells [.i a1.Wire.Letters,.i a1.Wire.Numbers,.i a0.Pitch,.i a0.Slack,.i a0.Gap,.i a0.Pause,.i a0.Sparks,.sl .no 1 (a0.Times.map cI)])] H g5:=hS
       replace hM:zee n a1 r10 (zbT n a1 r10 m5) v14=some r:=hM
       refine Sq ?_
       refine Sq ?_
       refine Rg 4 ?_
       refine Om (.i v14) ?_
       refine Om (.sl .no 1 (r10.1.map cI)) ?_
       refine zco (n:=r10.1.length) (by decide) rfl (List.length_map _) zbc ?_
       refine Oi (.b (decide (v14<(r10.1.length:Int)))) ?_
       refine Ni ?_
       refine Ws ?_
       rcases bft (decide (v14<(r10.1.length:Int))) with hb15 | hb15
       ·replace hM:=ifT hM hb15
        refine Ct hb15 ?_
        refine zas ?_
        refine Ws ?_
        refine Sq ?_
        refine zap ?_
        refine Sq ?_
        have hS0:=hS
        refine zdy (n:=18) rfl (by kernel_rfl) ?_
        refine Of ((Dial.cells a1)) zis ?_
        refine Olp (.sl .no 1 (a1.List_.map cI)) zbr zcc ?_
        refine Om (.i v14) ?_
        obtain ⟨x16,hx16,hM⟩:=zal hM
        refine zbj (xs:=a1.List_) (f:=cI) (z:=v14) (u:=x16) (by decide) rfl rfl zbi hx16 ?_
        refine Olp (.i x16) zac zah ?_
        refine zaJ (by decide) zdo rfl ?_
        refine zaW (v:=.i a1.Wire.Numbers) 0 hS (by decide) rfl rfl (.st hS0 0 rfl (by omega)) (po zac zah) ?_
        obtain ⟨q17,hq17,hM⟩:=zal hM
        refine zou (by decide) rfl rfl (zov hq17) ?_
        refine Of ((Dial.cells a1)) zis ?_
        refine Olp (.sl .no 1 (a1.List_.map cI)) zbr zcc ?_
        refine Om (.i v14) ?_
        obtain ⟨x18,hx18,hM⟩:=zal hM
        refine zbj (xs:=a1.List_) (f:=cI) (z:=v14) (u:=x18) (by decide) rfl rfl zbi hx18 ?_
        refine Olp (.i x18) zac zah ?_
        refine zaJ (by decide) zdo rfl ?_
        refine zaW (v:=.i a1.Wire.Numbers) 0 hS (by decide) rfl rfl (.st hS0 0 rfl (by omega)) (po zac zah) ?_
        obtain ⟨q19,hq19,hM⟩:=zal hM
        refine zou (by decide) rfl rfl (zow hq19) ?_
        refine Oa (.i q17) ?_
        refine Oa (.i q19) ?_
        refine Ni ?_
        refine Ws ?_
        refine Sq ?_
        have hS0:=hS
        refine zdy (n:=14) rfl (by kernel_rfl) ?_
        refine Of ((Dial.cells a1)) zgY ?_
        refine Olg (.agg (Wire.cells a1.Wire)) zcd ?_
        refine zaX (es:=[]) hS (by decide) zbH zd5 rfl zd6 rfl (by decide) (by omega) fun H hS=>?_
        refine Of ((Dial.cells a1)) zjv ?_
        refine Olp (.sl .no 3 (a1.Faults.map WireFault.cells)) zfu zgV ?_
        obtain ⟨l20,hl20,hM⟩:=zal hM
        refine zdd (xs:=([]:List WireFault)) (ys:=a1.Faults) (zs:=l20) (f:=WireFault.cells) (L':=[(g5+4+18+2,.row 82 l20.length),(g+0,.cells [.i a1.Wire.Letters,.i a1.Wire.Numbers,.i a0.Pitch,.i a0.Slack,.i a0.Gap,.i a0.Pause,.i a0.Sparks,.sl .no 1 (a0.Times.map cI)])]) 0 hS (by decide) rfl rfl rfl rfl (.behind (by kernel_rfl)) zbH zd5 zd6 hl20 rfl fun H hS=>?_
        refine Om (.i q17) ?_
        refine Om (.i q19) ?_
        obtain ⟨r21,hr21,hM⟩:=zal hM
        refine zat (bs:=[.agg (Wire.cells a1.Wire),.sl (.id (g5+4+18+2)) 3 (l20.map WireFault.cells),.i q17,.i q19]) (by decide) rfl rfl ((zjI hr21).le (.k (.cons (.sl _ _ _) (.k (.k .nil))))) ?_
        refine Om (.tup [.i r21.1,.i r21.2]) ?_
        refine Ox (.i r21.1) ?_
        refine Ox (.i r21.2) ?_
        refine Oa (.i r21.1) ?_
        refine Oa (.i r21.2) ?_
        refine Ni ?_
        replace hS:=hS.keep (L':=[(g+0,.cells [.i a1.Wire.Letters,.i a1.Wire.Numbers,.i a0.Pitch,.i a0.Slack,.i a0.Gap,.i a0.Pause,.i a0.Sparks,.sl .no 1 (a0.Times.map cI)])]) [false,true] rfl
        refine Ws ?_
        refine Sq ?_
        refine Rg 10 ?_
        refine Of ((Dial.cells a1)) zgY ?_
        refine Olg (.agg (Wire.cells a1.Wire)) zcd ?_
        refine Om (.i q17) ?_
        refine Om (.i q19) ?_
        obtain ⟨r22,hr22,hM⟩:=zal hM
        refine zat (bs:=[.agg (Wire.cells a1.Wire),.i q17,.i q19]) (by decide) rfl rfl ((zmP hr22).le (.k (.k (.k .nil)))) ?_
        refine Om (.tup [.sl .no 1 (r22.1.map cI),.i r22.2]) ?_
        refine Ox (.sl .no 1 (r22.1.map cI)) ?_
        refine Ox (.i r22.2) ?_
        refine Oa (.sl .no 1 (r22.1.map cI)) ?_
        refine Oa (.i r22.2) ?_
        refine Ni ?_
        refine Ws ?_
        refine zaF (J:=Bool) (fun j=>[(2,.ptr (g+0) 0),(3,.ep (Dial.cells a1)),(7,.sl .no 1 (r10.1.map cI)),(9,.i v14),(159,.b j)]) (fun j H' g'=>St (·<g) H0 [(g+0,.cells [.i a1.Wire.Letters,.i a1.Wire.Numbers,.i a0.Pitch,.i a0.Slack,.i a0.Gap,.i a0.Pause,.i a0.Sparks,.sl .no 1 (a0.Times.map cI)])] H' g'/\zch (zbT n a1 r10 m5) v14 j=some r) ?_ ?_
        ·rintro v23 H g6 ⟨hS,hM⟩
         change wpA _ _ _ _ (Fr.of [(2,.ptr (g+0) 0),(3,.ep (Dial.cells a1)),(7,.sl .no 1 (r10.1.map cI)),(9,.i v14),(159,.b v23)]) _ _
         replace hS:St (·<g) H0 [(g+0,.cells [.i a1.Wire.Letters,.i a1.Wire.Numbers,.i a0.Pitch,.i a0.Slack,.i a0.Gap,.i a0.Pause,.i a0.Sparks,.sl .no 1 (a0.Times.map cI)])] H g6:=hS
         replace hM:zch (zbT n a1 r10 m5) v14 v23=some r:=hM
         rcases bft v23 with hb24 | hb24
         ·replace hM:=ifT hM hb24
          refine Ct hb24 ?_
          refine Sq ?_
          refine Rg 1 ?_
          refine Oa (.b false) ?_
          refine Ni ?_
          replace hS:=hS.keep (L':=[]) [false] rfl
          refine Ws ?_
          refine zaB ?_
          refine zaq ?_
          refine zak ?_
          refine zaL ?_
          refine zaq ?_
          refine zaI ?_
          refine zaO (x:=.b false) (f:=fun r=>.b r) (.inr rfl) ?_ (.refl _) (Option.some.inj hM) hS
          exact (zam (zad (x:=.b false) rfl))
         ·replace hM:=ifF hM hb24
          refine Cf hb24 ?_
          refine zas ?_
          refine zae ?_
          refine Ws ?_
          refine Rg 3 ?_
          refine Om (.i v14) ?_
          refine Oi (.i (w64 (v14+1))) ?_
          refine Oa (.i (w64 (v14+1))) ?_
          refine Ni ?_
          exact za4 (w64 (v14+1)) (Nat.lt_succ_self _) (.k (.k (.k (.k .nil)))) ⟨(hS.keep [true] rfl).up (by omega),hM⟩
        ·refine Rg 25 ?_
         refine Om (.i r21.2) ?_
         refine Oi (.b (r21.2 != 0)) ?_
         refine Om (.b (r21.2 != 0)) ?_
         rcases bft (r21.2 != 0) with hb25 | hb25
         ·replace hM:=ifT hM hb25
          refine On (want:=false) hb25 ?_
          refine On (want:=false) hb25 ?_
          refine Pt (.b true) hb25 ?_
          refine Om (.b true) ?_
          refine Og ?_
          refine Og ?_
          refine Og ?_
          refine Og ?_
          refine Og ?_
          refine Og ?_
          refine zaH (v:=.b true) (e:=true) (by decide) rfl rfl rfl ?_
          refine Om (.b true) ?_
          refine Og ?_
          refine Og ?_
          refine Og ?_
          refine zaH (v:=.b true) (e:=true) (by decide) rfl rfl rfl ?_
          refine Om (.b true) ?_
          refine Og ?_
          refine Og ?_
          refine Og ?_
          refine Og ?_
          refine zaH (v:=.b true) (e:=true) (by decide) rfl rfl rfl ?_
          refine Ni ?_
          exact zai true (.k (.k (.k (.k (.k .nil))))) ⟨(hS.keep [true] rfl).up (by omega),hM⟩
         ·replace hM:=ifF hM hb25
          refine Oy (want:=false) hb25 ?_
          refine Om (.i r22.2) ?_
          refine Oy (want:=false) hb25 ?_
          refine Oi (.b (r22.2 != 0)) ?_
          refine Pf (.b (r22.2 != 0)) hb25 ?_
          refine Om (.b (r22.2 != 0)) ?_
          rcases bft (r22.2 != 0) with hb26 | hb26
          ·replace hM:=ifT hM hb26
           refine On (want:=false) hb26 ?_
           refine On (want:=false) hb26 ?_
           refine On (want:=false) hb26 ?_
           refine On (want:=false) hb26 ?_
           refine On (want:=false) hb26 ?_
           refine On (want:=false) hb26 ?_
           refine Pt (.b true) hb26 ?_
           refine Om (.b true) ?_
           refine Og ?_
           refine Og ?_
           refine Og ?_
           refine zaH (v:=.b true) (e:=true) (by decide) rfl rfl rfl ?_
           refine Om (.b true) ?_
           refine Og ?_
           refine Og ?_
           refine Og ?_
           refine Og ?_
           refine zaH (v:=.b true) (e:=true) (by decide) rfl rfl rfl ?_
           refine Ni ?_
           exact zai true (.k (.k (.k (.k (.k .nil))))) ⟨(hS.keep [true] rfl).up (by omega),hM⟩
          ·replace hM:=ifF hM hb26
           refine Oy (want:=false) hb26 ?_
           refine Om (.i r21.1) ?_
           refine Oy (want:=false) hb26 ?_
           refine Om (.sl .no 1 (r10.1.map cI)) ?_
           refine Oy (want:=false) hb26 ?_
           refine Om (.i v14) ?_
           refine Oy (want:=false) hb26 ?_
           obtain ⟨x27,hx27,hM⟩:=zal hM
           refine zbj (xs:=r10.1) (f:=cI) (z:=v14) (u:=x27) (by decide) rfl rfl zbi hx27 ?_
           refine Oy (want:=false) hb26 ?_
           refine Olp (.i x27) zac zah ?_
           refine Oy (want:=false) hb26 ?_
           refine Oi (.b (r21.1 != x27)) ?_
           refine Pf (.b (r21.1 != x27)) hb26 ?_
           refine Om (.b (r21.1 != x27)) ?_
           rcases bft (r21.1 != x27) with hb28 | hb28
           ·replace hM:=ifT hM hb28
            refine On (want:=false) hb28 ?_
            refine On (want:=false) hb28 ?_
            refine On (want:=false) hb28 ?_
            refine Pt (.b true) hb28 ?_
            refine Om (.b true) ?_
            refine Og ?_
            refine Og ?_
            refine Og ?_
            refine Og ?_
            refine zaH (v:=.b true) (e:=true) (by decide) rfl rfl rfl ?_
            refine Ni ?_
            exact zai true (.k (.k (.k (.k (.k .nil))))) ⟨(hS.keep [true] rfl).up (by omega),hM⟩
           ·replace hM:=ifF hM hb28
            refine Oy (want:=false) hb28 ?_
            refine Om (.sl .no 1 (r22.1.map cI)) ?_
            refine Oy (want:=false) hb28 ?_
            refine zco (n:=r22.1.length) (by decide) rfl (List.length_map _) zbc ?_
            refine Oy (want:=false) hb28 ?_
            refine Oi (.b (decide ((r22.1.length:Int)>40))) ?_
            refine Pf (.b (decide ((r22.1.length:Int)>40))) hb28 ?_
            refine Om (.b (decide ((r22.1.length:Int)>40))) ?_
            rcases bft (decide ((r22.1.length:Int)>40)) with hb29 | hb29
            ·replace hM:=ifT hM hb29
             refine On (want:=false) hb29 ?_
             refine On (want:=false) hb29 ?_
             refine On (want:=false) hb29 ?_
             refine On (want:=false) hb29 ?_
             refine Pt (.b true) hb29 ?_
             refine Ni ?_
             exact zai true (.k (.k (.k (.k (.k .nil))))) ⟨(hS.keep [true] rfl).up (by omega),hM⟩
            ·replace hM:=ifF hM hb29
             refine Oy (want:=false) hb29 ?_
             refine Om (.sl .no 1 (r22.1.map cI)) ?_
             refine Oy (want:=false) hb29 ?_
             refine Om (.i r21.1) ?_
             refine Oy (want:=false) hb29 ?_
             obtain ⟨r30,hr30,hM⟩:=zal hM
             refine zat (bs:=[.sl .no 1 (r22.1.map cI),.i r21.1]) (by decide) rfl rfl ((zql hr30).le (.k (.k .nil))) ?_
             refine Oy (want:=false) hb29 ?_
             refine zdc (e:=r30) (by decide) rfl ?_
             refine Pf (.b (!r30)) hb29 ?_
             refine Ni ?_
             exact zai (!r30) (.k (.k (.k (.k (.k .nil))))) ⟨(hS.keep [true] rfl).up (by omega),hM⟩
       ·replace hM:=ifF hM hb15
        refine Cf hb15 ?_
        refine zbw ?_
        refine zar ?_
        refine zao ?_
        refine zaw ?_
        exact zai () .nil ⟨(hS.keep [false] rfl).up (by omega),hM⟩
    ·refine Rg 10 ?_
     refine Om (.i r10.2) ?_
     refine Oi (.b (r10.2 != 0)) ?_
     refine Om (.b (r10.2 != 0)) ?_
     rcases bft (r10.2 != 0) with hb31 | hb31
     ·replace hM:=ifT hM hb31
      refine On (want:=false) hb31 ?_
      refine On (want:=false) hb31 ?_
      refine On (want:=false) hb31 ?_
      refine On (want:=false) hb31 ?_
      refine On (want:=false) hb31 ?_
      refine On (want:=false) hb31 ?_
      refine Pt (.b true) hb31 ?_
      refine Ni ?_
      exact zai true (.k (.k (.k (.k .nil)))) ⟨(hS.keep [true] rfl).up (by omega),hM⟩
     ·replace hM:=ifF hM hb31
      refine Oy (want:=false) hb31 ?_
      refine Om (.sl .no 1 (r10.1.map cI)) ?_
      refine Oy (want:=false) hb31 ?_
      refine zco (n:=r10.1.length) (by decide) rfl (List.length_map _) zbc ?_
      refine Oy (want:=false) hb31 ?_
      refine Of ((Dial.cells a1)) zis ?_
      refine Oy (want:=false) hb31 ?_
      refine Olp (.sl .no 1 (a1.List_.map cI)) zbr zcc ?_
      refine Oy (want:=false) hb31 ?_
      refine zco (n:=a1.List_.length) (by decide) rfl (List.length_map _) zbc ?_
      refine Oy (want:=false) hb31 ?_
      refine Oi (.b ((r10.1.length:Int) != (a1.List_.length:Int))) ?_
      refine Pf (.b ((r10.1.length:Int) != (a1.List_.length:Int))) hb31 ?_
      refine Ni ?_
      exact zai ((r10.1.length:Int) != (a1.List_.length:Int)) (.k (.k (.k (.k .nil)))) ⟨(hS.keep [true] rfl).up (by omega),hM⟩
 ·refine Rg 35 ?_
  refine zaJ (by decide) zdW rfl ?_
  refine zaW (v:=.sl .no 1 (a0.Times.map cI)) 0 hS (by decide) rfl rfl .no (po zbr zcc) ?_
  refine zco (n:=a0.Times.length) (by decide) rfl (List.length_map _) zbc ?_
  refine Oi (.b (decide ((a0.Times.length:Int)>40))) ?_
  refine Om (.b (decide ((a0.Times.length:Int)>40))) ?_
  rcases bft (decide ((a0.Times.length:Int)>40)) with hb32 | hb32
  ·replace hM:=ifT hM hb32
   refine On (want:=false) hb32 ?_
   refine On (want:=false) hb32 ?_
   refine On (want:=false) hb32 ?_
   refine On (want:=false) hb32 ?_
   refine Pt (.b true) hb32 ?_
   refine Om (.b true) ?_
   refine Og ?_
   refine Og ?_
   refine Og ?_
   refine Og ?_
   refine zaH (v:=.b true) (e:=true) (by decide) rfl rfl rfl ?_
   refine Om (.b true) ?_
   refine Og ?_
   refine Og ?_
   refine Og ?_
   refine zaH (v:=.b true) (e:=true) (by decide) rfl rfl rfl ?_
   refine Om (.b true) ?_
   refine Og ?_
   refine Og ?_
   refine Og ?_
   refine Og ?_
   refine zaH (v:=.b true) (e:=true) (by decide) rfl rfl rfl ?_
   refine Om (.b true) ?_
   refine Og ?_
   refine Og ?_
   refine Og ?_
   refine Og ?_
   refine Og ?_
   refine Og ?_
   refine zaH (v:=.b true) (e:=true) (by decide) rfl rfl rfl ?_
   refine Ni ?_
   exact zai true (.k (.k (.k .nil))) ⟨(hS.keep [true] rfl).up (by omega),hM⟩
  ·replace hM:=ifF hM hb32
   refine Oy (want:=false) hb32 ?_
   refine Of ((Dial.cells a1)) zis ?_
   refine Oy (want:=false) hb32 ?_
   refine Olp (.sl .no 1 (a1.List_.map cI)) zbr zcc ?_
   refine Oy (want:=false) hb32 ?_
   refine zco (n:=a1.List_.length) (by decide) rfl (List.length_map _) zbc ?_
   refine Oy (want:=false) hb32 ?_
   refine Oi (.b (decide ((a1.List_.length:Int)>40))) ?_
   refine Pf (.b (decide ((a1.List_.length:Int)>40))) hb32 ?_
   refine Om (.b (decide ((a1.List_.length:Int)>40))) ?_
   rcases bft (decide ((a1.List_.length:Int)>40)) with hb33 | hb33
   ·replace hM:=ifT hM hb33
    refine On (want:=false) hb33 ?_
    refine On (want:=false) hb33 ?_
    refine On (want:=false) hb33 ?_
    refine On (want:=false) hb33 ?_
    refine Pt (.b true) hb33 ?_
    refine Om (.b true) ?_
    refine Og ?_
    refine Og ?_
    refine Og ?_
    refine zaH (v:=.b true) (e:=true) (by decide) rfl rfl rfl ?_
    refine Om (.b true) ?_
    refine Og ?_
    refine Og ?_
    refine Og ?_
    refine Og ?_
    refine zaH (v:=.b true) (e:=true) (by decide) rfl rfl rfl ?_
    refine Om (.b true) ?_
    refine Og ?_
    refine Og ?_
    refine Og ?_
    refine Og ?_
    refine Og ?_
    refine Og ?_
    refine zaH (v:=.b true) (e:=true) (by decide) rfl rfl rfl ?_
    refine Ni ?_
    exact zai true (.k (.k (.k .nil))) ⟨(hS.keep [true] rfl).up (by omega),hM⟩
   ·replace hM:=ifF hM hb33
    refine Oy (want:=false) hb33 ?_
    refine Of ((Dial.cells a1)) zjv ?_
    refine Oy (want:=false) hb33 ?_
    refine Olp (.sl .no 3 (a1.Faults.map WireFault.cells)) zfu zgV ?_
    refine Oy (want:=false) hb33 ?_
    refine zco (n:=a1.Faults.length) (by decide) rfl (List.length_map _) zeK ?_
    refine Oy (want:=false) hb33 ?_
    refine Oi (.b (decide ((a1.Faults.length:Int)>40))) ?_
    refine Pf (.b (decide ((a1.Faults.length:Int)>40))) hb33 ?_
    refine Om (.b (decide ((a1.Faults.length:Int)>40))) ?_
    rcases bft (decide ((a1.Faults.length:Int)>40)) with hb34 | hb34
    ·replace hM:=ifT hM hb34
     refine On (want:=false) hb34 ?_
     refine On (want:=false) hb34 ?_
     refine On (want:=false) hb34 ?_
     refine Pt (.b true) hb34 ?_
     refine Om (.b true) ?_
     refine Og ?_
     refine Og ?_
     refine Og ?_
     refine Og ?_
     refine zaH (v:=.b true) (e:=true) (by decide) rfl rfl rfl ?_
     refine Om (.b true) ?_
     refine Og ?_
     refine Og ?_
     refine Og ?_
     refine Og ?_
     refine Og ?_
     refine Og ?_
     refine zaH (v:=.b true) (e:=true) (by decide) rfl rfl rfl ?_
     refine Ni ?_
     exact zai true (.k (.k (.k .nil))) ⟨(hS.keep [true] rfl).up (by omega),hM⟩
    ·replace hM:=ifF hM hb34
     refine Oy (want:=false) hb34 ?_
     refine Of ((Dial.cells a1)) zgY ?_
     refine Oy (want:=false) hb34 ?_
     refine Olg (.agg (Wire.cells a1.Wire)) zcd ?_
     refine Oy (want:=false) hb34 ?_
     obtain ⟨r35,hr35,hM⟩:=zal hM
     refine zat (bs:=[.agg (Wire.cells a1.Wire)]) (by decide) rfl rfl ((zoL hr35).le (.k .nil)) ?_
     refine Pf (.b r35) hb34 ?_
     refine Om (.b r35) ?_
     rcases bft r35 with hb36 | hb36
     ·replace hM:=ifT hM hb36
      refine On (want:=false) hb36 ?_
      refine On (want:=false) hb36 ?_
      refine On (want:=false) hb36 ?_
      refine On (want:=false) hb36 ?_
      refine Pt (.b true) hb36 ?_
      refine Om (.b true) ?_
      refine Og ?_
      refine Og ?_
      refine Og ?_
      refine Og ?_
      refine Og ?_
      refine Og ?_
      refine zaH (v:=.b true) (e:=true) (by decide) rfl rfl rfl ?_
      refine Ni ?_
      exact zai true (.k (.k (.k .nil))) ⟨(hS.keep [true] rfl).up (by omega),hM⟩
     ·replace hM:=ifF hM hb36
      refine Oy (want:=false) hb36 ?_
      refine Of ((Dial.cells a1)) zgY ?_
      refine Oy (want:=false) hb36 ?_
      refine Olg (.agg (Wire.cells a1.Wire)) zcd ?_
      refine Oy (want:=false) hb36 ?_
      obtain ⟨r37,hr37,hM⟩:=zal hM
      refine zat (bs:=[.agg (Wire.cells a1.Wire)]) (by decide) rfl rfl ((zjB hr37).le (.k .nil)) ?_
      refine Oy (want:=false) hb36 ?_
      refine Oi (.b (r37 != 0)) ?_
      refine Pf (.b (r37 != 0)) hb36 ?_
      refine Om (.b (r37 != 0)) ?_
      rcases bft (r37 != 0) with hb38 | hb38
      ·replace hM:=ifT hM hb38
       refine On (want:=false) hb38 ?_
       refine On (want:=false) hb38 ?_
       refine On (want:=false) hb38 ?_
       refine On (want:=false) hb38 ?_
       refine On (want:=false) hb38 ?_
       refine On (want:=false) hb38 ?_
       refine Pt (.b true) hb38 ?_
       refine Ni ?_
       exact zai true (.k (.k (.k .nil))) ⟨(hS.keep [true] rfl).up (by omega),hM⟩
      ·replace hM:=ifF hM hb38
       refine Oy (want:=false) hb38 ?_
       refine Of ((Dial.cells a1)) zgY ?_
       refine Oy (want:=false) hb38 ?_
       refine Olg (.agg (Wire.cells a1.Wire)) zcd ?_
       refine Oy (want:=false) hb38 ?_
       refine Of ((Dial.cells a1)) zjv ?_
       refine Oy (want:=false) hb38 ?_
       refine Olp (.sl .no 3 (a1.Faults.map WireFault.cells)) zfu zgV ?_
       refine Oy (want:=false) hb38 ?_
       obtain ⟨r39,hr39,hM⟩:=zal hM
       refine zat (bs:=[.agg (Wire.cells a1.Wire),.sl .no 3 (a1.Faults.map WireFault.cells)]) (by decide) rfl rfl ((zll hr39).le (.k (.k .nil))) ?_
       refine Oy (want:=false) hb38 ?_
       refine zdc (e:=r39) (by decide) rfl ?_
       refine Pf (.b (!r39)) hb38 ?_
       refine Ni ?_
       exact zai (!r39) (.k (.k (.k .nil))) ⟨(hS.keep [true] rfl).up (by omega),hM⟩
end Go.Proofs.YtebfppngmmdfkaaGreat
