/-
  The code returns what the functions say (printed by gen.py).
  Conditions: none.
-/
import Derived.Test.YtebfppngmmdfkaaWkPulsesPlays3
import Derived.Test.YtebfppngmmdfkaaAmPg
set_option linter.all false
namespace Go.Proofs.Ytebfppngmmdfkaa
open Go Go.AM Go.Law
set_option linter.unusedVariables false
set_option maxRecDepth 4000
set_option maxHeartbeats 4000000
theorem zjB {n:Nat} {a0:Wire} {r:(List WireFault)} (hM:zgG n a0=some r):zav Try.prog 50 [.agg (Wire.cells a0)] (.sl .no 3 (r.map WireFault.cells)):=by
 refine zaj mixed Try.func50 rfl (by decide) Try.ntmps50 (by simp) ?pure fun H0 g hf=>?_
 case pure=>exact .sl _ _ (zaz (fun x=>(zad (.v _) (zad (.v _) (zad (.v _) zaG)))))
 rw [zah]
 change wpA _ _ _ _ (Fr.of [(0,.agg (Wire.cells a0))]) H0 g
 have hS:=St.start hf
 refine Sq ?_
 refine Rg 2 ?_
 refine zbX (v:=.agg (Wire.cells a0)) (cs:=(Wire.cells a0)) hS (by decide) rfl rfl (by omega) fun H hS=>?_
 refine Oa (.sl .nil 0 []) ?_
 refine Ni ?_
 refine zaZ (L':=[]) 0 1 hS rfl rfl rfl fun H hS=>?_
 refine Ws ?_
 refine Sq ?_
 refine Rg 1 ?_
 refine Oa (.sl .nil 0 []) ?_
 refine Ni ?_
 refine zmT [(1,.ep (Wire.cells a0)),(3,.sl (.id (g+2+1)) 3 (([]:List WireFault).map WireFault.cells))] 3 3 33 hS (by omega) (by decide) rfl (.k (.k .nil)) fun H hS=>?_
 refine zaC (J:=(List WireFault)) (fun j=>[(1,.ep (Wire.cells a0)),(3,.sl (.id (g+2+1)) 3 (j.map WireFault.cells))]) (fun j H' g'=>St (·<g) H0 [(g+2+1,.row 33 j.length)] H' g'/\zfh n a0 j=some r) ?_ ?_
 ·rintro v1 H g1 ⟨hS,hM⟩
  change wpA _ _ _ _ (Fr.of [(1,.ep (Wire.cells a0)),(3,.sl (.id (g+2+1)) 3 (v1.map WireFault.cells))]) _ _
  replace hS:St (·<g) H0 [(g+2+1,.row 33 v1.length)] H g1:=hS
  replace hM:zfh n a0 v1=some r:=hM
  refine zaC (J:=(List WireFault)) (fun j=>[(1,.ep (Wire.cells a0)),(3,.sl (.id (g+2+1)) 3 (j.map WireFault.cells))]) (fun j H' g'=>St (·<g) H0 [(g+2+1,.row 33 j.length)] H' g'/\zfg n a0 j=some r) ?_ ?_
  ·rintro v2 H g2 ⟨hS,hM⟩
   change wpA _ _ _ _ (Fr.of [(1,.ep (Wire.cells a0)),(3,.sl (.id (g+2+1)) 3 (v2.map WireFault.cells))]) _ _
   replace hS:St (·<g) H0 [(g+2+1,.row 33 v2.length)] H g2:=hS
   replace hM:zfg n a0 v2=some r:=hM
   refine zaC (J:=(List WireFault)) (fun j=>[(1,.ep (Wire.cells a0)),(3,.sl (.id (g+2+1)) 3 (j.map WireFault.cells))]) (fun j H' g'=>St (·<g) H0 [(g+2+1,.row 33 j.length)] H' g'/\zfe n a0 j=some r) ?_ ?_
   ·rintro v3 H g3 ⟨hS,hM⟩
    change wpA _ _ _ _ (Fr.of [(1,.ep (Wire.cells a0)),(3,.sl (.id (g+2+1)) 3 (v3.map WireFault.cells))]) _ _
    replace hS:St (·<g) H0 [(g+2+1,.row 33 v3.length)] H g3:=hS
    replace hM:zfe n a0 v3=some r:=hM
    refine zaC (J:=(List WireFault)) (fun j=>[(3,.sl (.id (g+2+1)) 3 (j.map WireFault.cells))]) (fun j H' g'=>St (·<g) H0 [(g+2+1,.row 33 j.length)] H' g'/\zfc j=some r) ?_ ?_
    ·rintro v4 H g4 ⟨hS,hM⟩
     change wpA _ _ _ _ (Fr.of [(3,.sl (.id (g+2+1)) 3 (v4.map WireFault.cells))]) _ _
     replace hS:St (·<g) H0 [(g+2+1,.row 33 v4.length)] H g4:=hS
     replace hM:zfc v4=some r:=hM
     refine Sq ?_
     refine Rg 2 ?_
     refine Om (.sl (.id (g+2+1)) 3 (v4.map WireFault.cells)) ?_
     refine Oa (.sl (.id (g+2+1)) 3 (v4.map WireFault.cells)) ?_
     refine Ni ?_
     refine Ws ?_
     refine zaA ?_
     refine zaJ (x:=.sl (.id (g+2+1)) 3 (v4.map WireFault.cells)) (f:=fun r=>.sl .no 3 (r.map WireFault.cells)) (.inr rfl) ?_ (.sl _ _ _) (Option.some.inj hM) hS
     exact (zao (zac (x:=.sl (.id (g+2+1)) 3 (v4.map WireFault.cells)) rfl))
    ·refine Sq ?_
     refine Rg 1 ?_
     refine Oa (.i 0) ?_
     refine Ni ?_
     refine Ws ?_
     refine zaq ?_
     refine zbr (V:=(List WireFault)×Int) (fun v=>[(1,.ep (Wire.cells a0)),(3,.sl (.id (g+2+1)) 3 (v.1.map WireFault.cells)),(8,.i v.2)]) (fun v m5 H' g'=>St (·<g) H0 [(g+2+1,.row 33 v.1.length)] H' g'/\zbp n a0 m5 v.1 v.2=some r) (n:=n) (v3,0) (.k (.k (.k .nil))) ⟨(hS.keep [true] rfl).up (by omega),hM⟩ ?_
     rintro ⟨v5,v6⟩ m5 H g5 ⟨hS,hM⟩
     obtain _ | m5:=m5
     ·exact nomatch (show none=some _ from hM)
     change wpA _ _ _ _ (Fr.of [(1,.ep (Wire.cells a0)),(3,.sl (.id (g+2+1)) 3 (v5.map WireFault.cells)),(8,.i v6)]) _ _
     replace hS:St (·<g) H0 [(g+2+1,.row 33 v5.length)] H g5:=hS
     replace hM:zf6 n a0 (zbp n a0 m5) v5 v6=some r:=hM
     refine Sq ?_
     refine Sq ?_
     refine Rg 4 ?_
     refine Om (.i v6) ?_
     refine Of ((Wire.cells a0)) zfp ?_
     refine Olp (.i a0.Numbers) zab zaf ?_
     refine Oi (.b (decide (v6<a0.Numbers))) ?_
     refine Ni ?_
     refine Ws ?_
     rcases bft (decide (v6<a0.Numbers)) with hb7 | hb7
     ·replace hM:=ifT hM hb7
      refine Ct hb7 ?_
      refine zar ?_
      refine Ws ?_
      refine zaC (J:=(List WireFault)) (fun j=>[(1,.ep (Wire.cells a0)),(3,.sl (.id (g+2+1)) 3 (j.map WireFault.cells)),(8,.i v6)]) (fun j H' g'=>St (·<g) H0 [(g+2+1,.row 33 j.length)] H' g'/\zfd (zbp n a0 m5) v6 j=some r) ?_ ?_
      ·rintro v8 H g6 ⟨hS,hM⟩
       change wpA _ _ _ _ (Fr.of [(1,.ep (Wire.cells a0)),(3,.sl (.id (g+2+1)) 3 (v8.map WireFault.cells)),(8,.i v6)]) _ _
       replace hS:St (·<g) H0 [(g+2+1,.row 33 v8.length)] H g6:=hS
       replace hM:zfd (zbp n a0 m5) v6 v8=some r:=hM
       refine Rg 3 ?_
       refine Om (.i v6) ?_
       refine Oi (.i (w64 (v6+1))) ?_
       refine Oa (.i (w64 (v6+1))) ?_
       refine Ni ?_
       exact zaW (v8,w64 (v6+1)) (Nat.lt_succ_self _) (.k (.k (.k .nil))) ⟨(hS.keep [true] rfl).up (by omega),hM⟩
      ·refine zaq ?_
       refine Sq ?_
       refine Rg 3 ?_
       refine Om (.i v6) ?_
       refine Oi (.i (w64 (v6+1))) ?_
       refine Oa (.i (w64 (v6+1))) ?_
       refine Ni ?_
       refine Ws ?_
       refine zaq ?_
       refine zbr (V:=(List WireFault)×Int) (fun v=>[(1,.ep (Wire.cells a0)),(3,.sl (.id (g+2+1)) 3 (v.1.map WireFault.cells)),(8,.i v6),(9,.i v.2)]) (fun v m7 H' g'=>St (·<g) H0 [(g+2+1,.row 33 v.1.length)] H' g'/\zd3 (zbp n a0 m5) a0 v6 m7 v.1 v.2=some r) (n:=n) (v5,w64 (v6+1)) (.k (.k (.k (.k .nil)))) ⟨(hS.keep [true] rfl).up (by omega),hM⟩ ?_
       rintro ⟨v9,v10⟩ m7 H g7 ⟨hS,hM⟩
       obtain _ | m7:=m7
       ·exact nomatch (show none=some _ from hM)
       change wpA _ _ _ _ (Fr.of [(1,.ep (Wire.cells a0)),(3,.sl (.id (g+2+1)) 3 (v9.map WireFault.cells)),(8,.i v6),(9,.i v10)]) _ _
       replace hS:St (·<g) H0 [(g+2+1,.row 33 v9.length)] H g7:=hS
       replace hM:zf5 (zbp n a0 m5) a0 v6 (zd3 (zbp n a0 m5) a0 v6 m7) v9 v10=some r:=hM
       refine Sq ?_
       refine Sq ?_
       refine Rg 4 ?_
       refine Om (.i v10) ?_
       refine Of ((Wire.cells a0)) zfp ?_
       refine Olp (.i a0.Numbers) zab zaf ?_
       refine Oi (.b (decide (v10<a0.Numbers))) ?_
       refine Ni ?_
       refine Ws ?_
       rcases bft (decide (v10<a0.Numbers)) with hb11 | hb11
       ·replace hM:=ifT hM hb11
        refine Ct hb11 ?_
        refine zar ?_
        refine Ws ?_
        refine Sq ?_
        refine zaq ?_
        refine Rg 7 ?_
        refine Om (.sl (.id (g+2+1)) 3 (v9.map WireFault.cells)) ?_
        refine Om (.i v6) ?_
        refine Om (.i v10) ?_
        refine zbD (cs:=[.i 4,.i v6,.i v10]) (by decide) zdQ zh8 rfl ?_
        refine zaK (es:=[[.i 4,.i v6,.i v10]]) hS (by decide) zca zfm rfl zfn rfl (by decide) (by omega) fun H hS=>?_
        obtain ⟨l12,hl12,hM⟩:=zai hM
        refine zcv (xs:=v9) (ys:=([(⟨4,v6,v10⟩:WireFault)]:List WireFault)) (zs:=l12) (f:=WireFault.cells) (L':=[(g7+4+4,.row 33 1),(g+2+1,.row 33 l12.length)]) 1 hS (by decide) rfl rfl rfl rfl .no zca zfm zfn hl12 rfl fun H hS=>?_
        refine Oa (.sl (.id (g+2+1)) 3 (l12.map WireFault.cells)) ?_
        refine Ni ?_
        refine zae ?_
        replace hS:=hS.keep (L':=[(g+2+1,.row 33 l12.length)]) [false,true] rfl
        refine Ws ?_
        refine Rg 3 ?_
        refine Om (.i v10) ?_
        refine Oi (.i (w64 (v10+1))) ?_
        refine Oa (.i (w64 (v10+1))) ?_
        refine Ni ?_
        exact zaW (l12,w64 (v10+1)) (Nat.lt_succ_self _) (.k (.k (.k (.k .nil)))) ⟨(hS.keep [true] rfl).up (by omega),hM⟩
       ·replace hM:=ifF hM hb11
        refine Cf hb11 ?_
        refine zbl ?_
        refine zap ?_
        refine zan ?_
        refine zat ?_
        refine zae ?_
        exact zag v9 (.k (.k (.k .nil))) ⟨(hS.keep [true] rfl).up (by omega),hM⟩
     ·replace hM:=ifF hM hb7
      refine Cf hb7 ?_
      refine zbl ?_
      refine zap ?_
      refine zan ?_
      refine zat ?_
      exact zag v5 (.k .nil) ⟨(hS.keep [true] rfl).up (by omega),hM⟩
   ·refine Sq ?_
    refine Rg 1 ?_
    refine Oa (.i 0) ?_
    refine Ni ?_
    refine Ws ?_
    refine zaq ?_
    refine zbr (V:=(List WireFault)×Int) (fun v=>[(1,.ep (Wire.cells a0)),(3,.sl (.id (g+2+1)) 3 (v.1.map WireFault.cells)),(6,.i v.2)]) (fun v m8 H' g'=>St (·<g) H0 [(g+2+1,.row 33 v.1.length)] H' g'/\zbq n a0 m8 v.1 v.2=some r) (n:=n) (v2,0) (.k (.k (.k .nil))) ⟨(hS.keep [true] rfl).up (by omega),hM⟩ ?_
    rintro ⟨v13,v14⟩ m8 H g8 ⟨hS,hM⟩
    obtain _ | m8:=m8
    ·exact nomatch (show none=some _ from hM)
    change wpA _ _ _ _ (Fr.of [(1,.ep (Wire.cells a0)),(3,.sl (.id (g+2+1)) 3 (v13.map WireFault.cells)),(6,.i v14)]) _ _
    replace hS:St (·<g) H0 [(g+2+1,.row 33 v13.length)] H g8:=hS
    replace hM:zf8 n a0 (zbq n a0 m8) v13 v14=some r:=hM
    refine Sq ?_
    refine Sq ?_
    refine Rg 4 ?_
    refine Om (.i v14) ?_
    refine Of ((Wire.cells a0)) zgM ?_
    refine Olp (.i a0.Letters) zab zaf ?_
    refine Oi (.b (decide (v14<a0.Letters))) ?_
    refine Ni ?_
    refine Ws ?_
    rcases bft (decide (v14<a0.Letters)) with hb15 | hb15
    ·replace hM:=ifT hM hb15
     refine Ct hb15 ?_
     refine zar ?_
     refine Ws ?_
     refine zaC (J:=(List WireFault)) (fun j=>[(1,.ep (Wire.cells a0)),(3,.sl (.id (g+2+1)) 3 (j.map WireFault.cells)),(6,.i v14)]) (fun j H' g'=>St (·<g) H0 [(g+2+1,.row 33 j.length)] H' g'/\zff (zbq n a0 m8) v14 j=some r) ?_ ?_
     ·rintro v16 H g9 ⟨hS,hM⟩
      change wpA _ _ _ _ (Fr.of [(1,.ep (Wire.cells a0)),(3,.sl (.id (g+2+1)) 3 (v16.map WireFault.cells)),(6,.i v14)]) _ _
      replace hS:St (·<g) H0 [(g+2+1,.row 33 v16.length)] H g9:=hS
      replace hM:zff (zbq n a0 m8) v14 v16=some r:=hM
      refine Rg 3 ?_
      refine Om (.i v14) ?_
      refine Oi (.i (w64 (v14+1))) ?_
      refine Oa (.i (w64 (v14+1))) ?_
      refine Ni ?_
      exact zaW (v16,w64 (v14+1)) (Nat.lt_succ_self _) (.k (.k (.k .nil))) ⟨(hS.keep [true] rfl).up (by omega),hM⟩
     ·refine zaq ?_
      refine Sq ?_
      refine Rg 3 ?_
      refine Om (.i v14) ?_
      refine Oi (.i (w64 (v14+1))) ?_
      refine Oa (.i (w64 (v14+1))) ?_
      refine Ni ?_
      refine Ws ?_
      refine zaq ?_
      refine zbr (V:=(List WireFault)×Int) (fun v=>[(1,.ep (Wire.cells a0)),(3,.sl (.id (g+2+1)) 3 (v.1.map WireFault.cells)),(6,.i v14),(7,.i v.2)]) (fun v m10 H' g'=>St (·<g) H0 [(g+2+1,.row 33 v.1.length)] H' g'/\zd4 (zbq n a0 m8) a0 v14 m10 v.1 v.2=some r) (n:=n) (v13,w64 (v14+1)) (.k (.k (.k (.k .nil)))) ⟨(hS.keep [true] rfl).up (by omega),hM⟩ ?_
      rintro ⟨v17,v18⟩ m10 H g10 ⟨hS,hM⟩
      obtain _ | m10:=m10
      ·exact nomatch (show none=some _ from hM)
      change wpA _ _ _ _ (Fr.of [(1,.ep (Wire.cells a0)),(3,.sl (.id (g+2+1)) 3 (v17.map WireFault.cells)),(6,.i v14),(7,.i v18)]) _ _
      replace hS:St (·<g) H0 [(g+2+1,.row 33 v17.length)] H g10:=hS
      replace hM:zf7 (zbq n a0 m8) a0 v14 (zd4 (zbq n a0 m8) a0 v14 m10) v17 v18=some r:=hM
      refine Sq ?_
      refine Sq ?_
      refine Rg 4 ?_
      refine Om (.i v18) ?_
      refine Of ((Wire.cells a0)) zgM ?_
      refine Olp (.i a0.Letters) zab zaf ?_
      refine Oi (.b (decide (v18<a0.Letters))) ?_
      refine Ni ?_
      refine Ws ?_
      rcases bft (decide (v18<a0.Letters)) with hb19 | hb19
      ·replace hM:=ifT hM hb19
       refine Ct hb19 ?_
       refine zar ?_
       refine Ws ?_
       refine Sq ?_
       refine zaq ?_
       refine Rg 7 ?_
       refine Om (.sl (.id (g+2+1)) 3 (v17.map WireFault.cells)) ?_
       refine Om (.i v14) ?_
       refine Om (.i v18) ?_
       refine zbD (cs:=[.i 3,.i v14,.i v18]) (by decide) zdQ zh8 rfl ?_
       refine zaK (es:=[[.i 3,.i v14,.i v18]]) hS (by decide) zca zfm rfl zfn rfl (by decide) (by omega) fun H hS=>?_
       obtain ⟨l20,hl20,hM⟩:=zai hM
       refine zcv (xs:=v17) (ys:=([(⟨3,v14,v18⟩:WireFault)]:List WireFault)) (zs:=l20) (f:=WireFault.cells) (L':=[(g10+4+4,.row 33 1),(g+2+1,.row 33 l20.length)]) 1 hS (by decide) rfl rfl rfl rfl .no zca zfm zfn hl20 rfl fun H hS=>?_
       refine Oa (.sl (.id (g+2+1)) 3 (l20.map WireFault.cells)) ?_
       refine Ni ?_
       refine zae ?_
       replace hS:=hS.keep (L':=[(g+2+1,.row 33 l20.length)]) [false,true] rfl
       refine Ws ?_
       refine Rg 3 ?_
       refine Om (.i v18) ?_
       refine Oi (.i (w64 (v18+1))) ?_
       refine Oa (.i (w64 (v18+1))) ?_
       refine Ni ?_
       exact zaW (l20,w64 (v18+1)) (Nat.lt_succ_self _) (.k (.k (.k (.k .nil)))) ⟨(hS.keep [true] rfl).up (by omega),hM⟩
      ·replace hM:=ifF hM hb19
       refine Cf hb19 ?_
       refine zbl ?_
       refine zap ?_
       refine zan ?_
       refine zat ?_
       refine zae ?_
       exact zag v17 (.k (.k (.k .nil))) ⟨(hS.keep [true] rfl).up (by omega),hM⟩
    ·replace hM:=ifF hM hb15
     refine Cf hb15 ?_
     refine zbl ?_
     refine zap ?_
     refine zan ?_
     refine zat ?_
     exact zag v13 (.k (.k .nil)) ⟨(hS.keep [true] rfl).up (by omega),hM⟩
  ·refine Sq ?_
   refine Rg 1 ?_
   refine Oa (.i 0) ?_
   refine Ni ?_
   refine Ws ?_
   refine zaq ?_
   refine zbr (V:=(List WireFault)×Int) (fun v=>[(1,.ep (Wire.cells a0)),(3,.sl (.id (g+2+1)) 3 (v.1.map WireFault.cells)),(5,.i v.2)]) (fun v m11 H' g'=>St (·<g) H0 [(g+2+1,.row 33 v.1.length)] H' g'/\zd5 n a0 m11 v.1 v.2=some r) (n:=n) (v1,0) (.k (.k (.k .nil))) ⟨(hS.keep [true] rfl).up (by omega),hM⟩ ?_
   rintro ⟨v21,v22⟩ m11 H g11 ⟨hS,hM⟩
   obtain _ | m11:=m11
   ·exact nomatch (show none=some _ from hM)
   change wpA _ _ _ _ (Fr.of [(1,.ep (Wire.cells a0)),(3,.sl (.id (g+2+1)) 3 (v21.map WireFault.cells)),(5,.i v22)]) _ _
   replace hS:St (·<g) H0 [(g+2+1,.row 33 v21.length)] H g11:=hS
   replace hM:zf9 n a0 (zd5 n a0 m11) v21 v22=some r:=hM
   refine Sq ?_
   refine Sq ?_
   refine Rg 4 ?_
   refine Om (.i v22) ?_
   refine Of ((Wire.cells a0)) zfp ?_
   refine Olp (.i a0.Numbers) zab zaf ?_
   refine Oi (.b (decide (v22<a0.Numbers))) ?_
   refine Ni ?_
   refine Ws ?_
   rcases bft (decide (v22<a0.Numbers)) with hb23 | hb23
   ·replace hM:=ifT hM hb23
    refine Ct hb23 ?_
    refine zar ?_
    refine Ws ?_
    refine Sq ?_
    refine zaq ?_
    refine Rg 6 ?_
    refine Om (.sl (.id (g+2+1)) 3 (v21.map WireFault.cells)) ?_
    refine Om (.i v22) ?_
    refine zbD (cs:=[.i 2,.i v22,.i 0]) (by decide) zdQ zh8 rfl ?_
    refine zaK (es:=[[.i 2,.i v22,.i 0]]) hS (by decide) zca zfm rfl zfn rfl (by decide) (by omega) fun H hS=>?_
    obtain ⟨l24,hl24,hM⟩:=zai hM
    refine zcv (xs:=v21) (ys:=([(⟨2,v22,0⟩:WireFault)]:List WireFault)) (zs:=l24) (f:=WireFault.cells) (L':=[(g11+4+3,.row 33 1),(g+2+1,.row 33 l24.length)]) 1 hS (by decide) rfl rfl rfl rfl .no zca zfm zfn hl24 rfl fun H hS=>?_
    refine Oa (.sl (.id (g+2+1)) 3 (l24.map WireFault.cells)) ?_
    refine Ni ?_
    refine zae ?_
    replace hS:=hS.keep (L':=[(g+2+1,.row 33 l24.length)]) [false,true] rfl
    refine Ws ?_
    refine Rg 3 ?_
    refine Om (.i v22) ?_
    refine Oi (.i (w64 (v22+1))) ?_
    refine Oa (.i (w64 (v22+1))) ?_
    refine Ni ?_
    exact zaW (l24,w64 (v22+1)) (Nat.lt_succ_self _) (.k (.k (.k .nil))) ⟨(hS.keep [true] rfl).up (by omega),hM⟩
   ·replace hM:=ifF hM hb23
    refine Cf hb23 ?_
    refine zbl ?_
    refine zap ?_
    refine zan ?_
    refine zat ?_
    exact zag v21 (.k (.k .nil)) ⟨(hS.keep [true] rfl).up (by omega),hM⟩
 ·refine Sq ?_
  refine Rg 1 ?_
  refine Oa (.i 0) ?_
  refine Ni ?_
  refine Ws ?_
  refine zaq ?_
  refine zbr (V:=(List WireFault)×Int) (fun v=>[(1,.ep (Wire.cells a0)),(3,.sl (.id (g+2+1)) 3 (v.1.map WireFault.cells)),(4,.i v.2)]) (fun v m12 H' g'=>St (·<g) H0 [(g+2+1,.row 33 v.1.length)] H' g'/\zd6 n a0 m12 v.1 v.2=some r) (n:=n) (([]:List WireFault),0) (.k (.k (.k .nil))) ⟨(hS.keep [true] rfl).up (by omega),hM⟩ ?_
  rintro ⟨v25,v26⟩ m12 H g12 ⟨hS,hM⟩
  obtain _ | m12:=m12
  ·exact nomatch (show none=some _ from hM)
  change wpA _ _ _ _ (Fr.of [(1,.ep (Wire.cells a0)),(3,.sl (.id (g+2+1)) 3 (v25.map WireFault.cells)),(4,.i v26)]) _ _
  replace hS:St (·<g) H0 [(g+2+1,.row 33 v25.length)] H g12:=hS
  replace hM:zga n a0 (zd6 n a0 m12) v25 v26=some r:=hM
  refine Sq ?_
  refine Sq ?_
  refine Rg 4 ?_
  refine Om (.i v26) ?_
  refine Of ((Wire.cells a0)) zgM ?_
  refine Olp (.i a0.Letters) zab zaf ?_
  refine Oi (.b (decide (v26<a0.Letters))) ?_
  refine Ni ?_
  refine Ws ?_
  rcases bft (decide (v26<a0.Letters)) with hb27 | hb27
  ·replace hM:=ifT hM hb27
   refine Ct hb27 ?_
   refine zar ?_
   refine Ws ?_
   refine Sq ?_
   refine zaq ?_
   refine Rg 6 ?_
   refine Om (.sl (.id (g+2+1)) 3 (v25.map WireFault.cells)) ?_
   refine Om (.i v26) ?_
   refine zbD (cs:=[.i 1,.i v26,.i 0]) (by decide) zdQ zh8 rfl ?_
   refine zaK (es:=[[.i 1,.i v26,.i 0]]) hS (by decide) zca zfm rfl zfn rfl (by decide) (by omega) fun H hS=>?_
   obtain ⟨l28,hl28,hM⟩:=zai hM
   refine zcv (xs:=v25) (ys:=([(⟨1,v26,0⟩:WireFault)]:List WireFault)) (zs:=l28) (f:=WireFault.cells) (L':=[(g12+4+3,.row 33 1),(g+2+1,.row 33 l28.length)]) 1 hS (by decide) rfl rfl rfl rfl .no zca zfm zfn hl28 rfl fun H hS=>?_
   refine Oa (.sl (.id (g+2+1)) 3 (l28.map WireFault.cells)) ?_
   refine Ni ?_
   refine zae ?_
   replace hS:=hS.keep (L':=[(g+2+1,.row 33 l28.length)]) [false,true] rfl
   refine Ws ?_
   refine Rg 3 ?_
   refine Om (.i v26) ?_
   refine Oi (.i (w64 (v26+1))) ?_
   refine Oa (.i (w64 (v26+1))) ?_
   refine Ni ?_
   exact zaW (l28,w64 (v26+1)) (Nat.lt_succ_self _) (.k (.k (.k .nil))) ⟨(hS.keep [true] rfl).up (by omega),hM⟩
  ·replace hM:=ifF hM hb27
   refine Cf hb27 ?_
   refine zbl ?_
   refine zap ?_
   refine zan ?_
   refine zat ?_
   exact zag v25 (.k (.k .nil)) ⟨(hS.keep [true] rfl).up (by omega),hM⟩
theorem zjc {n:Nat} {a0:List WireFault} {a1:WireFault} {r:Int} (hM:zek n a0 a1=some r):zav Try.prog 51 [.sl .no 3 (a0.map WireFault.cells),.agg (WireFault.cells a1)] (.i r):=by
 refine zaj mixed Try.func51 rfl (by decide) Try.ntmps51 (by simp) ?pure fun H0 g hf=>?_
 case pure=>exact .v _
 rw [zah]
 change wpA _ _ _ _ (Fr.of [(0,.sl .no 3 (a0.map WireFault.cells)),(1,.agg (WireFault.cells a1))]) H0 g
 have hS:=St.start hf
 refine Sq ?_
 refine Rg 2 ?_
 refine zbX (v:=.agg (WireFault.cells a1)) (cs:=(WireFault.cells a1)) hS (by decide) rfl rfl (by omega) fun H hS=>?_
 refine Oa (.i 0) ?_
 refine Ni ?_
 refine zaZ (L':=[]) 0 3 hS rfl rfl rfl fun H hS=>?_
 refine Ws ?_
 refine zaC (J:=Unit) (fun j=>[]) (fun j H' g'=>St (·<g) H0 [] H' g'/\zeE=some r) ?_ ?_
 ·rintro _ H g1 ⟨hS,hM⟩
  change wpA _ _ _ _ (Fr.of []) _ _
  replace hS:St (·<g) H0 [] H g1:=hS
  replace hM:zeE=some r:=hM
  refine Sq ?_
  refine Rg 1 ?_
  refine Oa (.i (-1)) ?_
  refine Ni ?_
  refine Ws ?_
  refine zaA ?_
  refine zaJ (x:=.i (-1)) (f:=fun r=>.i r) (.inr rfl) ?_ (.refl _) (Option.some.inj hM) hS
  exact (zao (zac (x:=.i (-1)) rfl))
 ·refine Sq ?_
  refine Rg 1 ?_
  refine Oa (.i 0) ?_
  refine Ni ?_
  refine Ws ?_
  refine zaq ?_
  refine zbr (V:=Int) (fun v=>[(0,.sl .no 3 (a0.map WireFault.cells)),(3,.ep (WireFault.cells a1)),(5,.i v)]) (fun v m2 H' g'=>St (·<g) H0 [] H' g'/\zbZ a0 a1 m2 v=some r) (n:=n) 0 (.k (.k (.k .nil))) ⟨(hS.keep [] rfl).up (by omega),hM⟩ ?_
  rintro v1 m2 H g2 ⟨hS,hM⟩
  obtain _ | m2:=m2
  ·exact nomatch (show none=some _ from hM)
  change wpA _ _ _ _ (Fr.of [(0,.sl .no 3 (a0.map WireFault.cells)),(3,.ep (WireFault.cells a1)),(5,.i v1)]) _ _
  replace hS:St (·<g) H0 [] H g2:=hS
  replace hM:zc5 a0 a1 (zbZ a0 a1 m2) v1=some r:=hM
  refine Sq ?_
  refine Sq ?_
  refine Rg 4 ?_
  refine Om (.i v1) ?_
  refine Om (.sl .no 3 (a0.map WireFault.cells)) ?_
  refine zcj (n:=a0.length) (by decide) rfl (List.length_map _) zfN ?_
  refine Oi (.b (decide (v1<(a0.length:Int)))) ?_
  refine Ni ?_
  refine Ws ?_
  rcases bft (decide (v1<(a0.length:Int))) with hb2 | hb2
  ·replace hM:=ifT hM hb2
   refine Ct hb2 ?_
   refine zar ?_
   refine Ws ?_
   refine Sq ?_
   refine zaq ?_
   refine Sq ?_
   have hS0:=hS
   refine zd1 (n:=6) rfl (by kernel_rfl) ?_
   refine Om (.sl .no 3 (a0.map WireFault.cells)) ?_
   refine Om (.i v1) ?_
   obtain ⟨x3,hx3,hM⟩:=zai hM
   refine zaU (xs:=a0) (f:=WireFault.cells) (z:=v1) (u:=x3) (by decide) rfl rfl zca hx3 ?_
   refine Olg (.agg (WireFault.cells x3)) zcb ?_
   refine Olg (.agg (WireFault.cells a1)) zcb ?_
   refine zs2 (cs:=(WireFault.cells x3)) (ds:=(WireFault.cells a1)) (e:=((x3.Kind==a1.Kind)&&((x3.A==a1.A)&&((x3.B==a1.B)&&true)))) (by decide) rfl rfl zkL rfl ?_
   refine Ni ?_
   refine Ws ?_
   rcases bft ((x3.Kind==a1.Kind)&&((x3.A==a1.A)&&((x3.B==a1.B)&&true))) with hb4 | hb4
   ·replace hM:=ifT hM hb4
    refine Ct hb4 ?_
    refine Sq ?_
    refine Rg 2 ?_
    refine Om (.i v1) ?_
    refine Oa (.i v1) ?_
    refine Ni ?_
    refine Ws ?_
    refine zaA ?_
    refine zas ?_
    refine zam ?_
    refine zaL ?_
    refine zas ?_
    refine zaI ?_
    refine zaJ (x:=.i v1) (f:=fun r=>.i r) (.inr rfl) ?_ (.refl _) (Option.some.inj hM) hS
    exact (zao (zac (x:=.i v1) rfl))
   ·replace hM:=ifF hM hb4
    refine Cf hb4 ?_
    refine zar ?_
    refine zae ?_
    refine Ws ?_
    refine Rg 3 ?_
    refine Om (.i v1) ?_
    refine Oi (.i (w64 (v1+1))) ?_
    refine Oa (.i (w64 (v1+1))) ?_
    refine Ni ?_
    exact zaW (w64 (v1+1)) (Nat.lt_succ_self _) (.k (.k (.k .nil))) ⟨(hS.keep [] rfl).up (by omega),hM⟩
  ·replace hM:=ifF hM hb2
   refine Cf hb2 ?_
   refine zbl ?_
   refine zap ?_
   refine zan ?_
   refine zat ?_
   exact zag () .nil ⟨(hS.keep [] rfl).up (by omega),hM⟩
theorem zmp {a0:WireFault} {a1:WireFault} {r:Bool} (hM:ziI a0 a1=some r):zav Try.prog 52 [.agg (WireFault.cells a0),.agg (WireFault.cells a1)] (.b r):=by
 refine zaj mixed Try.func52 rfl (by decide) Try.ntmps52 (by simp) ?pure fun H0 g hf=>?_
 case pure=>exact .v _
 rw [zah]
 change wpA _ _ _ _ (Fr.of [(0,.agg (WireFault.cells a0)),(1,.agg (WireFault.cells a1))]) H0 g
 have hS:=St.start hf
 refine Sq ?_
 refine Rg 3 ?_
 refine zbX (v:=.agg (WireFault.cells a0)) (cs:=(WireFault.cells a0)) hS (by decide) rfl rfl (by omega) fun H hS=>?_
 refine zbX (v:=.agg (WireFault.cells a1)) (cs:=(WireFault.cells a1)) hS (by decide) rfl rfl (by omega) fun H hS=>?_
 refine Oa (.b false) ?_
 refine Ni ?_
 refine zaZ (L':=[(g+1,.cells (WireFault.cells a1))]) 1 2 hS rfl rfl rfl fun H hS=>?_
 refine zaZ (L':=[]) 0 3 hS rfl rfl rfl fun H hS=>?_
 refine Ws ?_
 refine zaC (J:=Bool) (fun j=>[(4,.b j)]) (fun j H' g'=>St (·<g) H0 [] H' g'/\zcM j=some r) ?_ ?_
 ·rintro v1 H g1 ⟨hS,hM⟩
  change wpA _ _ _ _ (Fr.of [(4,.b v1)]) _ _
  replace hS:St (·<g) H0 [] H g1:=hS
  replace hM:zcM v1=some r:=hM
  refine zaA ?_
  refine zaJ (x:=.b v1) (f:=fun r=>.b r) (.inr rfl) ?_ (.refl _) (Option.some.inj hM) hS
  exact (zao (zac (x:=.b v1) rfl))
 ·refine Rg 39 ?_
  refine Of ((WireFault.cells a0)) zem ?_
  refine Olp (.i a0.Kind) zab zaf ?_
  refine Of ((WireFault.cells a1)) zem ?_
  refine Olp (.i a1.Kind) zab zaf ?_
  refine Oi (.b (a0.Kind==a1.Kind)) ?_
  refine Om (.b (a0.Kind==a1.Kind)) ?_
  rcases bft (a0.Kind==a1.Kind) with hb2 | hb2
  ·replace hM:=ifT hM hb2
   refine Oy (want:=true) hb2 ?_
   refine Of ((WireFault.cells a0)) zem ?_
   refine Oy (want:=true) hb2 ?_
   refine Olp (.i a0.Kind) zab zaf ?_
   refine Oy (want:=true) hb2 ?_
   refine Oi (.b (decide (a0.Kind≥3))) ?_
   refine Pt (.b (decide (a0.Kind≥3))) hb2 ?_
   refine Om (.b (decide (a0.Kind≥3))) ?_
   rcases bft (decide (a0.Kind≥3)) with hb3 | hb3
   ·replace hM:=ifT hM hb3
    refine Oy (want:=true) hb3 ?_
    refine Of ((WireFault.cells a0)) zcF ?_
    refine Oy (want:=true) hb3 ?_
    refine Olp (.i a0.A) zab zaf ?_
    refine Oy (want:=true) hb3 ?_
    refine Of ((WireFault.cells a1)) zcF ?_
    refine Oy (want:=true) hb3 ?_
    refine Olp (.i a1.A) zab zaf ?_
    refine Oy (want:=true) hb3 ?_
    refine Oi (.b (a0.A==a1.A)) ?_
    refine Oy (want:=true) hb3 ?_
    refine Om (.b (a0.A==a1.A)) ?_
    rcases bft (a0.A==a1.A) with hb4 | hb4
    ·replace hM:=ifT hM hb4
     refine On (want:=false) hb4 ?_
     refine On (want:=false) hb4 ?_
     refine On (want:=false) hb4 ?_
     refine On (want:=false) hb4 ?_
     refine On (want:=false) hb4 ?_
     refine Oy (want:=true) hb3 ?_
     refine Pt (.b true) hb4 ?_
     refine Oy (want:=true) hb3 ?_
     refine Om (.b true) ?_
     refine Og ?_
     refine Og ?_
     refine Og ?_
     refine Og ?_
     refine Og ?_
     refine Oy (want:=true) hb3 ?_
     refine za7 (v:=.b true) (e:=true) (by decide) rfl rfl rfl ?_
     refine Oy (want:=true) hb3 ?_
     refine Om (.b true) ?_
     refine Og ?_
     refine Og ?_
     refine Og ?_
     refine Og ?_
     refine Og ?_
     refine Oy (want:=true) hb3 ?_
     refine za7 (v:=.b true) (e:=true) (by decide) rfl rfl rfl ?_
     refine Pt (.b true) hb3 ?_
     refine Oa (.b true) ?_
     refine Ni ?_
     exact zag true (.k .nil) ⟨(hS.keep [] rfl).up (by omega),hM⟩
    ·replace hM:=ifF hM hb4
     refine Oy (want:=false) hb4 ?_
     refine Of ((WireFault.cells a0)) zcF ?_
     refine Oy (want:=false) hb4 ?_
     refine Olp (.i a0.A) zab zaf ?_
     refine Oy (want:=false) hb4 ?_
     refine Of ((WireFault.cells a1)) zdh ?_
     refine Oy (want:=false) hb4 ?_
     refine Olp (.i a1.B) zab zaf ?_
     refine Oy (want:=false) hb4 ?_
     refine Oi (.b (a0.A==a1.B)) ?_
     refine Oy (want:=true) hb3 ?_
     refine Pf (.b (a0.A==a1.B)) hb4 ?_
     refine Oy (want:=true) hb3 ?_
     refine Om (.b (a0.A==a1.B)) ?_
     rcases bft (a0.A==a1.B) with hb5 | hb5
     ·replace hM:=ifT hM hb5
      refine On (want:=false) hb5 ?_
      refine On (want:=false) hb5 ?_
      refine On (want:=false) hb5 ?_
      refine On (want:=false) hb5 ?_
      refine On (want:=false) hb5 ?_
      refine Oy (want:=true) hb3 ?_
      refine Pt (.b true) hb5 ?_
      refine Oy (want:=true) hb3 ?_
      refine Om (.b true) ?_
      refine Og ?_
      refine Og ?_
      refine Og ?_
      refine Og ?_
      refine Og ?_
      refine Oy (want:=true) hb3 ?_
      refine za7 (v:=.b true) (e:=true) (by decide) rfl rfl rfl ?_
      refine Pt (.b true) hb3 ?_
      refine Oa (.b true) ?_
      refine Ni ?_
      exact zag true (.k .nil) ⟨(hS.keep [] rfl).up (by omega),hM⟩
     ·replace hM:=ifF hM hb5
      refine Oy (want:=false) hb5 ?_
      refine Of ((WireFault.cells a0)) zdh ?_
      refine Oy (want:=false) hb5 ?_
      refine Olp (.i a0.B) zab zaf ?_
      refine Oy (want:=false) hb5 ?_
      refine Of ((WireFault.cells a1)) zcF ?_
      refine Oy (want:=false) hb5 ?_
      refine Olp (.i a1.A) zab zaf ?_
      refine Oy (want:=false) hb5 ?_
      refine Oi (.b (a0.B==a1.A)) ?_
      refine Oy (want:=true) hb3 ?_
      refine Pf (.b (a0.B==a1.A)) hb5 ?_
      refine Oy (want:=true) hb3 ?_
      refine Om (.b (a0.B==a1.A)) ?_
      rcases bft (a0.B==a1.A) with hb6 | hb6
      ·replace hM:=ifT hM hb6
       refine On (want:=false) hb6 ?_
       refine On (want:=false) hb6 ?_
       refine On (want:=false) hb6 ?_
       refine On (want:=false) hb6 ?_
       refine On (want:=false) hb6 ?_
       refine Oy (want:=true) hb3 ?_
       refine Pt (.b true) hb6 ?_
       refine Pt (.b true) hb3 ?_
       refine Oa (.b true) ?_
       refine Ni ?_
       exact zag true (.k .nil) ⟨(hS.keep [] rfl).up (by omega),hM⟩
      ·replace hM:=ifF hM hb6
       refine Oy (want:=false) hb6 ?_
       refine Of ((WireFault.cells a0)) zdh ?_
       refine Oy (want:=false) hb6 ?_
       refine Olp (.i a0.B) zab zaf ?_
       refine Oy (want:=false) hb6 ?_
       refine Of ((WireFault.cells a1)) zdh ?_
       refine Oy (want:=false) hb6 ?_
       refine Olp (.i a1.B) zab zaf ?_
       refine Oy (want:=false) hb6 ?_
       refine Oi (.b (a0.B==a1.B)) ?_
       refine Oy (want:=true) hb3 ?_
       refine Pf (.b (a0.B==a1.B)) hb6 ?_
       refine Pt (.b (a0.B==a1.B)) hb3 ?_
       refine Oa (.b (a0.B==a1.B)) ?_
       refine Ni ?_
       exact zag (a0.B==a1.B) (.k .nil) ⟨(hS.keep [] rfl).up (by omega),hM⟩
   ·replace hM:=ifF hM hb3
    refine On (want:=true) hb3 ?_
    refine On (want:=true) hb3 ?_
    refine On (want:=true) hb3 ?_
    refine On (want:=true) hb3 ?_
    refine On (want:=true) hb3 ?_
    refine On (want:=true) hb3 ?_
    refine zak (j:=16) (by decide) rfl ?_
    refine zak (j:=16) (by decide) rfl ?_
    refine zak (j:=16) (by decide) rfl ?_
    refine zak (j:=16) (by decide) rfl ?_
    refine zak (j:=16) (by decide) rfl ?_
    refine On (want:=true) hb3 ?_
    refine On (want:=true) hb3 ?_
    refine zak (j:=23) (by decide) rfl ?_
    refine zak (j:=23) (by decide) rfl ?_
    refine zak (j:=23) (by decide) rfl ?_
    refine zak (j:=23) (by decide) rfl ?_
    refine zak (j:=23) (by decide) rfl ?_
    refine On (want:=true) hb3 ?_
    refine On (want:=true) hb3 ?_
    refine zak (j:=30) (by decide) rfl ?_
    refine zak (j:=30) (by decide) rfl ?_
    refine zak (j:=30) (by decide) rfl ?_
    refine zak (j:=30) (by decide) rfl ?_
    refine zak (j:=30) (by decide) rfl ?_
    refine On (want:=true) hb3 ?_
    refine Pf (.b false) hb3 ?_
    refine Oa (.b false) ?_
    refine Ni ?_
    exact zag false (.k .nil) ⟨(hS.keep [] rfl).up (by omega),hM⟩
  ·replace hM:=ifF hM hb2
   refine On (want:=true) hb2 ?_
   refine On (want:=true) hb2 ?_
   refine On (want:=true) hb2 ?_
   refine Pf (.b false) hb2 ?_
   refine Om (.b false) ?_
   refine Og ?_
   refine Og ?_
   refine Og ?_
   refine Og ?_
   refine Og ?_
   refine Og ?_
   refine zak (j:=16) (by decide) rfl ?_
   refine zak (j:=16) (by decide) rfl ?_
   refine zak (j:=16) (by decide) rfl ?_
   refine zak (j:=16) (by decide) rfl ?_
   refine zak (j:=16) (by decide) rfl ?_
   refine Og ?_
   refine Og ?_
   refine zak (j:=23) (by decide) rfl ?_
   refine zak (j:=23) (by decide) rfl ?_
   refine zak (j:=23) (by decide) rfl ?_
   refine zak (j:=23) (by decide) rfl ?_
   refine zak (j:=23) (by decide) rfl ?_
   refine Og ?_
   refine Og ?_
   refine zak (j:=30) (by decide) rfl ?_
   refine zak (j:=30) (by decide) rfl ?_
   refine zak (j:=30) (by decide) rfl ?_
   refine zak (j:=30) (by decide) rfl ?_
   refine zak (j:=30) (by decide) rfl ?_
   refine Og ?_
   refine zaE (v:=.b false) (e:=false) (by decide) rfl rfl rfl ?_
   refine Oa (.b false) ?_
   refine Ni ?_
   exact zag false (.k .nil) ⟨(hS.keep [] rfl).up (by omega),hM⟩
theorem zmq {n:Nat} {a0:Wire} {a1:List WireFault} {r:Bool} (hM:zhu n a0 a1=some r):zav Try.prog 24 [.agg (Wire.cells a0),.sl .no 3 (a1.map WireFault.cells)] (.b r):=by
 refine zaj mixed Try.func24 rfl (by decide) Try.ntmps24 (by simp) ?pure fun H0 g hf=>?_
 case pure=>exact .v _
 rw [zah]
 change wpA _ _ _ _ (Fr.of [(0,.agg (Wire.cells a0)),(1,.sl .no 3 (a1.map WireFault.cells))]) H0 g
 have hS:=St.start hf
 refine Sq ?_
 refine Rg 2 ?_
 refine zbX (v:=.agg (Wire.cells a0)) (cs:=(Wire.cells a0)) hS (by decide) rfl rfl (by omega) fun H hS=>?_
 refine Oa (.b false) ?_
 refine Ni ?_
 refine zaZ (L':=[]) 0 2 hS rfl rfl rfl fun H hS=>?_
 refine Ws ?_
 refine Sq ?_
 refine Rg 4 ?_
 refine Olg (.agg (Wire.cells a0)) zfO ?_
 obtain ⟨r1,hr1,hM⟩:=zai hM
 refine zau (bs:=[.agg (Wire.cells a0)]) (by decide) rfl rfl ((zjB hr1).le (.k .nil)) ?_
 refine Oa (.sl .no 3 (r1.map WireFault.cells)) ?_
 refine Oa (.i (-1)) ?_
 refine Ni ?_
 refine Ws ?_
 refine zaC (J:=Unit) (fun j=>[]) (fun j H' g'=>St (·<g) H0 [] H' g'/\zfJ=some r) ?_ ?_
 ·rintro _ H g1 ⟨hS,hM⟩
  change wpA _ _ _ _ (Fr.of []) _ _
  replace hS:St (·<g) H0 [] H g1:=hS
  replace hM:zfJ=some r:=hM
  refine Sq ?_
  refine Rg 1 ?_
  refine Oa (.b true) ?_
  refine Ni ?_
  refine Ws ?_
  refine zaA ?_
  refine zaJ (x:=.b true) (f:=fun r=>.b r) (.inr rfl) ?_ (.refl _) (Option.some.inj hM) hS
  exact (zao (zac (x:=.b true) rfl))
 ·refine Sq ?_
  refine Rg 1 ?_
  refine Oa (.i 0) ?_
  refine Ni ?_
  refine Ws ?_
  refine zaq ?_
  refine zbr (V:=Int×Int) (fun v=>[(1,.sl .no 3 (a1.map WireFault.cells)),(5,.sl .no 3 (r1.map WireFault.cells)),(6,.i v.1),(7,.i v.2)]) (fun v m2 H' g'=>St (·<g) H0 [] H' g'/\zbd n a1 r1 m2 v.1 v.2=some r) (n:=n) ((-1),0) (.k (.k (.k (.k .nil)))) ⟨(hS.keep [] rfl).up (by omega),hM⟩ ?_
  rintro ⟨v2,v3⟩ m2 H g2 ⟨hS,hM⟩
  obtain _ | m2:=m2
  ·exact nomatch (show none=some _ from hM)
  change wpA _ _ _ _ (Fr.of [(1,.sl .no 3 (a1.map WireFault.cells)),(5,.sl .no 3 (r1.map WireFault.cells)),(6,.i v2),(7,.i v3)]) _ _
  replace hS:St (·<g) H0 [] H g2:=hS
  replace hM:zeP n a1 r1 (zbd n a1 r1 m2) v2 v3=some r:=hM
  refine Sq ?_
  refine Sq ?_
  refine Rg 4 ?_
  refine Om (.i v3) ?_
  refine Om (.sl .no 3 (a1.map WireFault.cells)) ?_
  refine zcj (n:=a1.length) (by decide) rfl (List.length_map _) zfN ?_
  refine Oi (.b (decide (v3<(a1.length:Int)))) ?_
  refine Ni ?_
  refine Ws ?_
  rcases bft (decide (v3<(a1.length:Int))) with hb4 | hb4
  ·replace hM:=ifT hM hb4
   refine Ct hb4 ?_
   refine zar ?_
   refine Ws ?_
   refine zaC (J:=Int) (fun j=>[(1,.sl .no 3 (a1.map WireFault.cells)),(5,.sl .no 3 (r1.map WireFault.cells)),(6,.i j),(7,.i v3)]) (fun j H' g'=>St (·<g) H0 [] H' g'/\zeF (zbd n a1 r1 m2) v3 j=some r) ?_ ?_
   ·rintro v5 H g3 ⟨hS,hM⟩
    change wpA _ _ _ _ (Fr.of [(1,.sl .no 3 (a1.map WireFault.cells)),(5,.sl .no 3 (r1.map WireFault.cells)),(6,.i v5),(7,.i v3)]) _ _
    replace hS:St (·<g) H0 [] H g3:=hS
    replace hM:zeF (zbd n a1 r1 m2) v3 v5=some r:=hM
    refine Rg 3 ?_
    refine Om (.i v3) ?_
    refine Oi (.i (w64 (v3+1))) ?_
    refine Oa (.i (w64 (v3+1))) ?_
    refine Ni ?_
    exact zaW (v5,w64 (v3+1)) (Nat.lt_succ_self _) (.k (.k (.k (.k .nil)))) ⟨(hS.keep [] rfl).up (by omega),hM⟩
   ·refine zaq ?_
    refine Sq ?_
    refine Rg 7 ?_
    refine Om (.sl .no 3 (r1.map WireFault.cells)) ?_
    refine Om (.sl .no 3 (a1.map WireFault.cells)) ?_
    refine Om (.i v3) ?_
    obtain ⟨x6,hx6,hM⟩:=zai hM
    refine zaU (xs:=a1) (f:=WireFault.cells) (z:=v3) (u:=x6) (by decide) rfl rfl zca hx6 ?_
    refine Olg (.agg (WireFault.cells x6)) zcb ?_
    obtain ⟨r7,hr7,hM⟩:=zai hM
    refine zau (bs:=[.sl .no 3 (r1.map WireFault.cells),.agg (WireFault.cells x6)]) (by decide) rfl rfl ((zjc hr7).le (.k (.k .nil))) ?_
    refine Oa (.i r7) ?_
    refine Ni ?_
    refine Ws ?_
    refine Sq ?_
    refine Sq ?_
    refine Rg 3 ?_
    refine Om (.i r7) ?_
    refine Om (.i v2) ?_
    refine Oi (.b (decide (r7<=v2))) ?_
    refine Ni ?_
    refine Ws ?_
    rcases bft (decide (r7<=v2)) with hb8 | hb8
    ·replace hM:=ifT hM hb8
     refine Ct hb8 ?_
     refine Sq ?_
     refine Rg 1 ?_
     refine Oa (.b false) ?_
     refine Ni ?_
     refine Ws ?_
     refine zaA ?_
     refine zam ?_
     refine zas ?_
     refine zaI ?_
     refine zaL ?_
     refine zas ?_
     refine zaI ?_
     refine zaJ (x:=.b false) (f:=fun r=>.b r) (.inr rfl) ?_ (.refl _) (Option.some.inj hM) hS
     exact (zao (zac (x:=.b false) rfl))
    ·replace hM:=ifF hM hb8
     refine Cf hb8 ?_
     refine zar ?_
     refine Ws ?_
     refine Sq ?_
     refine Rg 2 ?_
     refine Om (.i r7) ?_
     refine Oa (.i r7) ?_
     refine Ni ?_
     refine Ws ?_
     refine Sq ?_
     refine Rg 1 ?_
     refine Oa (.i 0) ?_
     refine Ni ?_
     refine Ws ?_
     refine zaq ?_
     refine zbr (V:=Int) (fun v=>[(1,.sl .no 3 (a1.map WireFault.cells)),(5,.sl .no 3 (r1.map WireFault.cells)),(6,.i r7),(7,.i v3),(9,.i v)]) (fun v m4 H' g'=>St (·<g) H0 [] H' g'/\zdj (zbd n a1 r1 m2) a1 v3 r7 m4 v=some r) (n:=n) 0 (.k (.k (.k (.k (.k .nil))))) ⟨(hS.keep [] rfl).up (by omega),hM⟩ ?_
     rintro v9 m4 H g4 ⟨hS,hM⟩
     obtain _ | m4:=m4
     ·exact nomatch (show none=some _ from hM)
     change wpA _ _ _ _ (Fr.of [(1,.sl .no 3 (a1.map WireFault.cells)),(5,.sl .no 3 (r1.map WireFault.cells)),(6,.i r7),(7,.i v3),(9,.i v9)]) _ _
     replace hS:St (·<g) H0 [] H g4:=hS
     replace hM:zeO (zbd n a1 r1 m2) a1 v3 r7 (zdj (zbd n a1 r1 m2) a1 v3 r7 m4) v9=some r:=hM
     refine Sq ?_
     refine Sq ?_
     refine Rg 3 ?_
     refine Om (.i v9) ?_
     refine Om (.i v3) ?_
     refine Oi (.b (decide (v9<v3))) ?_
     refine Ni ?_
     refine Ws ?_
     rcases bft (decide (v9<v3)) with hb10 | hb10
     ·replace hM:=ifT hM hb10
      refine Ct hb10 ?_
      refine zar ?_
      refine Ws ?_
      refine Sq ?_
      refine zaq ?_
      refine Sq ?_
      have hS0:=hS
      refine zd1 (n:=9) rfl (by kernel_rfl) ?_
      refine Om (.sl .no 3 (a1.map WireFault.cells)) ?_
      refine Om (.i v9) ?_
      obtain ⟨x11,hx11,hM⟩:=zai hM
      refine zaU (xs:=a1) (f:=WireFault.cells) (z:=v9) (u:=x11) (by decide) rfl rfl zca hx11 ?_
      refine Olg (.agg (WireFault.cells x11)) zcb ?_
      refine Om (.sl .no 3 (a1.map WireFault.cells)) ?_
      refine Om (.i v3) ?_
      obtain ⟨x12,hx12,hM⟩:=zai hM
      refine zaU (xs:=a1) (f:=WireFault.cells) (z:=v3) (u:=x12) (by decide) rfl rfl zca hx12 ?_
      refine Olg (.agg (WireFault.cells x12)) zcb ?_
      obtain ⟨r13,hr13,hM⟩:=zai hM
      refine zau (bs:=[.agg (WireFault.cells x11),.agg (WireFault.cells x12)]) (by decide) rfl rfl ((zmp hr13).le (.k (.k .nil))) ?_
      refine Ni ?_
      refine Ws ?_
      rcases bft r13 with hb14 | hb14
      ·replace hM:=ifT hM hb14
       refine Ct hb14 ?_
       refine Sq ?_
       refine Rg 1 ?_
       refine Oa (.b false) ?_
       refine Ni ?_
       refine Ws ?_
       refine zaA ?_
       refine zas ?_
       refine zam ?_
       refine zaL ?_
       refine zas ?_
       refine zas ?_
       refine zaI ?_
       refine zaL ?_
       refine zas ?_
       refine zaI ?_
       refine zaJ (x:=.b false) (f:=fun r=>.b r) (.inr rfl) ?_ (.refl _) (Option.some.inj hM) hS
       exact (zao (zac (x:=.b false) rfl))
      ·replace hM:=ifF hM hb14
       refine Cf hb14 ?_
       refine zar ?_
       refine zae ?_
       refine Ws ?_
       refine Rg 3 ?_
       refine Om (.i v9) ?_
       refine Oi (.i (w64 (v9+1))) ?_
       refine Oa (.i (w64 (v9+1))) ?_
       refine Ni ?_
       exact zaW (w64 (v9+1)) (Nat.lt_succ_self _) (.k (.k (.k (.k (.k .nil))))) ⟨(hS.keep [] rfl).up (by omega),hM⟩
     ·replace hM:=ifF hM hb10
      refine Cf hb10 ?_
      refine zbl ?_
      refine zap ?_
      refine zan ?_
      refine zat ?_
      refine zae ?_
      exact zag r7 (.k (.k (.k (.k .nil)))) ⟨(hS.keep [] rfl).up (by omega),hM⟩
  ·replace hM:=ifF hM hb4
   refine Cf hb4 ?_
   refine zbl ?_
   refine zap ?_
   refine zan ?_
   refine zat ?_
   exact zag () .nil ⟨(hS.keep [] rfl).up (by omega),hM⟩
theorem zkS {a0:Pulse} {r:Wire} (hM:zh6 a0=some r):zav Try.prog 25 [.agg (Pulse.cells a0)] (.agg [.i r.Letters,.i r.Numbers,.sl .no 3 (r.Presses.map WirePress.cells),.i r.Faults]):=by
 refine zaj mixed Try.func25 rfl (by decide) Try.ntmps25 (by simp) ?pure fun H0 g hf=>?_
 case pure=>exact .agg _ (zad (.v _) (zad (.v _) (zad (.sl _ _ (zaz (fun x=>(zad (.v _) (zad (.v _) (zad (.v _) zaG)))))) (zad (.v _) zaG))))
 rw [zah]
 change wpA _ _ _ _ (Fr.of [(0,.agg (Pulse.cells a0))]) H0 g
 have hS:=St.start hf
 refine Sq ?_
 refine Rg 2 ?_
 refine zbX (v:=.agg (Pulse.cells a0)) (cs:=(Pulse.cells a0)) hS (by decide) rfl rfl (by omega) fun H hS=>?_
 refine zcp hS (by decide) zi4 (by omega) fun H hS=>?_
 refine Ni ?_
 refine zaZ (L':=[(g+1,.cells [.i 0,.i 0,.sl .nil 0 [],.i 0])]) 1 1 hS rfl rfl rfl fun H hS=>?_
 refine Ws ?_
 refine Sq ?_
 refine Rg 6 ?_
 refine Of ((Pulse.cells a0)) zfo ?_
 refine Olp (.i a0.Letters) zab zaf ?_
 refine Of ((Pulse.cells a0)) zcu ?_
 refine Olp (.i a0.Numbers) zab zaf ?_
 refine zbD (cs:=[.i a0.Letters,.i a0.Numbers,.sl .nil 0 [],.i 0]) (by decide) zi4 zqC rfl ?_
 refine za1 (v:=.agg [.i a0.Letters,.i a0.Numbers,.sl .nil 0 [],.i 0]) (ns:=[.i a0.Letters,.i a0.Numbers,.sl .nil 0 [],.i 0]) (L':=[(g+1,.cells [.i a0.Letters,.i a0.Numbers,.sl .nil 0 [],.i 0])]) 0 hS rfl rfl .no rfl rfl zoA nlb rfl fun H hS=>?_
 refine Ni ?_
 refine zdz [(2,.ptr (g+1) 0)] (.k .nil) ?_
 refine zaA ?_
 refine zaJ (x:=.agg [.i a0.Letters,.i a0.Numbers,.sl .nil 0 [],.i 0]) (f:=fun r=>.agg [.i r.Letters,.i r.Numbers,.sl .no 3 (r.Presses.map WirePress.cells),.i r.Faults]) (.inr rfl) ?_ (.aggL (.k (.k (.cons (.sl0 .nil 3 0) (.k .nil))))) (Option.some.inj hM) hS
 exact (zao (zeM (x:=.agg [.i a0.Letters,.i a0.Numbers,.sl .nil 0 [],.i 0]) 0 hS rfl rfl (pg zfO)))
theorem zlh {n:Nat} {rec:(List Int)->Int->Int->Int->Option ((List (List Int)))} (hrec:∀{a0:List Int} {a1:Int} {a2:Int} {a3:Int} {r:(List (List Int))},rec a0 a1 a2 a3=some r->zav Try.prog 86 [.sl .no 1 (a0.map cI),.i a1,.i a2,.i a3] (.sl .no 1 (r.map (cL 1 cI)))) {a0:List Int} {a1:Int} {a2:Int} {a3:Int} {r:(List (List Int))} (hM:zgZ n rec a0 a1 a2 a3=some r):zav Try.prog 86 [.sl .no 1 (a0.map cI),.i a1,.i a2,.i a3] (.sl .no 1 (r.map (cL 1 cI))):=by
 refine zaj mixed Try.func86 rfl (by decide) Try.ntmps86 (by simp) ?pure fun H0 g hf=>?_
 case pure=>exact .sl _ _ (zaz (fun x=>(zad (.sl _ _ (zaz (fun x=>(zad (.v _) zaG)))) zaG)))
 rw [zah]
 change wpA _ _ _ _ (Fr.of [(0,.sl .no 1 (a0.map cI)),(1,.i a1),(2,.i a2),(3,.i a3)]) H0 g
 have hS:=St.start hf
 refine Sq ?_
 refine Rg 1 ?_
 refine Oa (.sl .nil 0 []) ?_
 refine Ni ?_
 refine Ws ?_
 refine Sq ?_
 refine Rg 3 ?_
 refine Om (.sl .no 1 (a0.map cI)) ?_
 refine zaK (es:=[[.sl .no 1 (a0.map cI)]]) hS (by decide) zia zmf rfl zmg rfl (by decide) (by omega) fun H hS=>?_
 refine Oa (.sl (.id (g+1+1)) 1 (([a0]:List (List Int)).map (cL 1 cI))) ?_
 refine Ni ?_
 refine Ws ?_
 refine zaC (J:=(List (List Int))) (fun j=>[(9,.sl (.id (g+1+1)) 1 (j.map (cL 1 cI)))]) (fun j H' g'=>St (·<g) H0 [(g+1+1,.row 22 j.length)] H' g'/\zfi j=some r) ?_ ?_
 ·rintro v1 H g1 ⟨hS,hM⟩
  change wpA _ _ _ _ (Fr.of [(9,.sl (.id (g+1+1)) 1 (v1.map (cL 1 cI)))]) _ _
  replace hS:St (·<g) H0 [(g+1+1,.row 22 v1.length)] H g1:=hS
  replace hM:zfi v1=some r:=hM
  refine Sq ?_
  refine Rg 2 ?_
  refine Om (.sl (.id (g+1+1)) 1 (v1.map (cL 1 cI))) ?_
  refine Oa (.sl (.id (g+1+1)) 1 (v1.map (cL 1 cI))) ?_
  refine Ni ?_
  refine Ws ?_
  refine zaA ?_
  refine zaJ (x:=.sl (.id (g+1+1)) 1 (v1.map (cL 1 cI))) (f:=fun r=>.sl .no 1 (r.map (cL 1 cI))) (.inr rfl) ?_ (.sl _ _ _) (Option.some.inj hM) hS
  exact (zao (zac (x:=.sl (.id (g+1+1)) 1 (v1.map (cL 1 cI))) rfl))
 ·refine Sq ?_
  refine Rg 2 ?_
  refine Om (.i a1) ?_
  refine Oa (.i a1) ?_
  refine Ni ?_
  refine Ws ?_
  refine zaq ?_
  refine zbr (V:=(List (List Int))×Int) (fun v=>[(0,.sl .no 1 (a0.map cI)),(2,.i a2),(3,.i a3),(9,.sl (.id (g+1+1)) 1 (v.1.map (cL 1 cI))),(10,.i v.2)]) (fun v m2 H' g'=>St (·<g) H0 [(g+1+1,.row 22 v.1.length)] H' g'/\zcm rec a0 a2 a3 m2 v.1 v.2=some r) (n:=n) (([a0]:List (List Int)),a1) (.k (.k (.k (.k (.k .nil))))) ⟨(hS.keep [true] rfl).up (by omega),hM⟩ ?_
  rintro ⟨v2,v3⟩ m2 H g2 ⟨hS,hM⟩
  obtain _ | m2:=m2
  ·exact nomatch (show none=some _ from hM)
  change wpA _ _ _ _ (Fr.of [(0,.sl .no 1 (a0.map cI)),(2,.i a2),(3,.i a3),(9,.sl (.id (g+1+1)) 1 (v2.map (cL 1 cI))),(10,.i v3)]) _ _
  replace hS:St (·<g) H0 [(g+1+1,.row 22 v2.length)] H g2:=hS
  replace hM:zel rec a0 a2 a3 (zcm rec a0 a2 a3 m2) v2 v3=some r:=hM
  refine Sq ?_
  refine zaC (J:=Bool) (fun j=>[(0,.sl .no 1 (a0.map cI)),(2,.i a2),(3,.i a3),(9,.sl (.id (g+1+1)) 1 (v2.map (cL 1 cI))),(10,.i v3),(20,.b j)]) (fun j H' g'=>St (·<g) H0 [(g+1+1,.row 22 v2.length)] H' g'/\zdH rec (zcm rec a0 a2 a3 m2) a0 a2 a3 v2 v3 j=some r) ?_ ?_
  ·rintro v4 H g3 ⟨hS,hM⟩
   change wpA _ _ _ _ (Fr.of [(0,.sl .no 1 (a0.map cI)),(2,.i a2),(3,.i a3),(9,.sl (.id (g+1+1)) 1 (v2.map (cL 1 cI))),(10,.i v3),(20,.b v4)]) _ _
   replace hS:St (·<g) H0 [(g+1+1,.row 22 v2.length)] H g3:=hS
   replace hM:zdH rec (zcm rec a0 a2 a3 m2) a0 a2 a3 v2 v3 v4=some r:=hM
   rcases bft v4 with hb5 | hb5
   ·replace hM:=ifT hM hb5
    refine Ct hb5 ?_
    refine zar ?_
    refine Ws ?_
    refine Sq ?_
    refine zaq ?_
    refine Rg 15 ?_
    refine Om (.sl (.id (g+1+1)) 1 (v2.map (cL 1 cI))) ?_
    refine zaK (es:=[]) hS (by decide) zaR zcT rfl zcU rfl (by decide) (by omega) fun H hS=>?_
    refine Om (.sl .no 1 (a0.map cI)) ?_
    obtain ⟨l6,hl6,hM⟩:=zai hM
    refine zcv (xs:=([]:List Int)) (ys:=a0) (zs:=l6) (f:=cI) (L':=[(g3+1,.row 3 l6.length),(g+1+1,.row 22 v2.length)]) 0 hS (by decide) rfl rfl rfl rfl .no zaR zcT zcU hl6 rfl fun H hS=>?_
    refine Om (.i v3) ?_
    refine zaK (es:=[[.i v3]]) hS (by decide) zaR zcT rfl zcU rfl (by decide) (by omega) fun H hS=>?_
    obtain ⟨l7,hl7,hM⟩:=zai hM
    refine zcv (xs:=l6) (ys:=([v3]:List Int)) (zs:=l7) (f:=cI) (L':=[(g3+5,.row 3 1),(g3+1,.row 3 l7.length),(g+1+1,.row 22 v2.length)]) 1 hS (by decide) rfl rfl rfl rfl .no zaR zcT zcU hl7 rfl fun H hS=>?_
    refine Om (.i v3) ?_
    refine Oi (.i (w64 (v3+1))) ?_
    refine Om (.i a2) ?_
    refine Om (.i a3) ?_
    refine Oi (.i (w64 (a3-1))) ?_
    obtain ⟨r8,hr8,hM⟩:=zai hM
    refine zau (bs:=[.sl (.id (g3+1)) 1 (l7.map cI),.i (w64 (v3+1)),.i a2,.i (w64 (a3-1))]) (by decide) rfl rfl ((hrec hr8).le (.cons (.sl _ _ _) (.k (.k (.k .nil))))) ?_
    obtain ⟨l9,hl9,hM⟩:=zai hM
    refine zcv (xs:=v2) (ys:=r8) (zs:=l9) (f:=(cL 1 cI)) (L':=[(g3+5,.row 3 1),(g3+1,.row 3 l7.length),(g+1+1,.row 22 l9.length)]) 2 hS (by decide) rfl rfl rfl rfl .no zia zmf zmg hl9 rfl fun H hS=>?_
    refine Oa (.sl (.id (g+1+1)) 1 (l9.map (cL 1 cI))) ?_
    refine Ni ?_
    refine zae ?_
    replace hS:=hS.keep (L':=[(g+1+1,.row 22 l9.length)]) [false,false,true] rfl
    refine Ws ?_
    refine Rg 3 ?_
    refine Om (.i v3) ?_
    refine Oi (.i (w64 (v3+1))) ?_
    refine Oa (.i (w64 (v3+1))) ?_
    refine Ni ?_
    exact zaW (l9,w64 (v3+1)) (Nat.lt_succ_self _) (.k (.k (.k (.k (.k .nil))))) ⟨(hS.keep [true] rfl).up (by omega),hM⟩
   ·replace hM:=ifF hM hb5
    refine Cf hb5 ?_
    refine zbl ?_
    refine zap ?_
    refine zan ?_
    refine zat ?_
    exact zag v2 (.k .nil) ⟨(hS.keep [true] rfl).up (by omega),hM⟩
  ·refine Rg 7 ?_
   refine Om (.i v3) ?_
   refine Om (.i a2) ?_
   refine Oi (.b (decide (v3<a2))) ?_
   refine Om (.b (decide (v3<a2))) ?_
   rcases bft (decide (v3<a2)) with hb10 | hb10
   ·replace hM:=ifT hM hb10
    refine Oy (want:=true) hb10 ?_
    refine Om (.i a3) ?_
    refine Oy (want:=true) hb10 ?_
    refine Oi (.b (decide (a3>0))) ?_
    refine Pt (.b (decide (a3>0))) hb10 ?_
    refine Ni ?_
    exact zag (decide (a3>0)) (.k (.k (.k (.k (.k (.k .nil)))))) ⟨(hS.keep [true] rfl).up (by omega),hM⟩
   ·replace hM:=ifF hM hb10
    refine On (want:=true) hb10 ?_
    refine On (want:=true) hb10 ?_
    refine Pf (.b false) hb10 ?_
    refine Ni ?_
    exact zag false (.k (.k (.k (.k (.k (.k .nil)))))) ⟨(hS.keep [true] rfl).up (by omega),hM⟩
theorem zjT:∀{n:Nat} {a0:List Int} {a1:Int} {a2:Int} {a3:Int} {r:(List (List Int))},zey n a0 a1 a2 a3=some r->zav Try.prog 86 [.sl .no 1 (a0.map cI),.i a1,.i a2,.i a3] (.sl .no 1 (r.map (cL 1 cI)))
 | 0,_,_,_,_,_,h=>nomatch (show none=some _ from h)
 | n+1,_,_,_,_,_,h=>zlh (n:=n) (rec:=zey n) (fun h=>zjT h) h
theorem zjd {n:Nat} {a0:Pulse} {a1:List Int} {a2:Int} {r:Int} (hM:zhv n a0 a1 a2=some r):zav Try.prog 90 [.agg (Pulse.cells a0),.sl .no 1 (a1.map cI),.i a2] (.i r):=by
 refine zaj mixed Try.func90 rfl (by decide) Try.ntmps90 (by simp) ?pure fun H0 g hf=>?_
 case pure=>exact .v _
 rw [zah]
 change wpA _ _ _ _ (Fr.of [(0,.agg (Pulse.cells a0)),(1,.sl .no 1 (a1.map cI)),(2,.i a2)]) H0 g
 have hS:=St.start hf
 refine Sq ?_
 refine Rg 2 ?_
 refine zbX (v:=.agg (Pulse.cells a0)) (cs:=(Pulse.cells a0)) hS (by decide) rfl rfl (by omega) fun H hS=>?_
 refine Oa (.i 0) ?_
 refine Ni ?_
 refine zaZ (L':=[]) 0 3 hS rfl rfl rfl fun H hS=>?_
 refine Ws ?_
 refine Sq ?_
 refine Rg 1 ?_
 refine Oa (.i 1) ?_
 refine Ni ?_
 refine Ws ?_
 refine zaC (J:=Int) (fun j=>[(7,.i j)]) (fun j H' g'=>St (·<g) H0 [] H' g'/\zeG j=some r) ?_ ?_
 ·rintro v1 H g1 ⟨hS,hM⟩
  change wpA _ _ _ _ (Fr.of [(7,.i v1)]) _ _
  replace hS:St (·<g) H0 [] H g1:=hS
  replace hM:zeG v1=some r:=hM
  refine Sq ?_
  refine Rg 2 ?_
  refine Om (.i v1) ?_
  refine Oa (.i v1) ?_
  refine Ni ?_
  refine Ws ?_
  refine zaA ?_
  refine zaJ (x:=.i v1) (f:=fun r=>.i r) (.inr rfl) ?_ (.refl _) (Option.some.inj hM) hS
  exact (zao (zac (x:=.i v1) rfl))
 ·refine zaq ?_
  refine zbr (V:=Int) (fun v=>[(1,.sl .no 1 (a1.map cI)),(2,.i a2),(3,.ep (Pulse.cells a0)),(7,.i v)]) (fun v m2 H' g'=>St (·<g) H0 [] H' g'/\zcn a0 a1 a2 m2 v=some r) (n:=n) 1 (.k (.k (.k (.k .nil)))) ⟨(hS.keep [] rfl).up (by omega),hM⟩ ?_
  rintro v2 m2 H g2 ⟨hS,hM⟩
  obtain _ | m2:=m2
  ·exact nomatch (show none=some _ from hM)
  change wpA _ _ _ _ (Fr.of [(1,.sl .no 1 (a1.map cI)),(2,.i a2),(3,.ep (Pulse.cells a0)),(7,.i v2)]) _ _
  replace hS:St (·<g) H0 [] H g2:=hS
  replace hM:zeQ a0 a1 a2 (zcn a0 a1 a2 m2) v2=some r:=hM
  refine Sq ?_
  refine zaC (J:=Bool) (fun j=>[(1,.sl .no 1 (a1.map cI)),(2,.i a2),(3,.ep (Pulse.cells a0)),(7,.i v2),(40,.b j)]) (fun j H' g'=>St (·<g) H0 [] H' g'/\zdV (zcn a0 a1 a2 m2) v2 j=some r) ?_ ?_
  ·rintro v3 H g3 ⟨hS,hM⟩
   change wpA _ _ _ _ (Fr.of [(1,.sl .no 1 (a1.map cI)),(2,.i a2),(3,.ep (Pulse.cells a0)),(7,.i v2),(40,.b v3)]) _ _
   replace hS:St (·<g) H0 [] H g3:=hS
   replace hM:zdV (zcn a0 a1 a2 m2) v2 v3=some r:=hM
   rcases bft v3 with hb4 | hb4
   ·replace hM:=ifT hM hb4
    refine Ct hb4 ?_
    refine zar ?_
    refine Ws ?_
    refine zaq ?_
    refine Rg 3 ?_
    refine Om (.i v2) ?_
    refine Oi (.i (w64 (v2+1))) ?_
    refine Oa (.i (w64 (v2+1))) ?_
    refine Ni ?_
    refine zae ?_
    exact zaW (w64 (v2+1)) (Nat.lt_succ_self _) (.k (.k (.k (.k .nil)))) ⟨(hS.keep [] rfl).up (by omega),hM⟩
   ·replace hM:=ifF hM hb4
    refine Cf hb4 ?_
    refine zbl ?_
    refine zap ?_
    refine zan ?_
    refine zat ?_
    exact zag v2 (.k .nil) ⟨(hS.keep [] rfl).up (by omega),hM⟩
  ·have hS0:=hS
   refine zd1 (n:=33) rfl (by kernel_rfl) ?_
   refine Om (.i a2) ?_
   refine Om (.i v2) ?_
   refine Oi (.i (w64 (a2+v2))) ?_
   refine Om (.sl .no 1 (a1.map cI)) ?_
   refine zcj (n:=a1.length) (by decide) rfl (List.length_map _) za9 ?_
   refine Oi (.b (decide ((w64 (a2+v2))<(a1.length:Int)))) ?_
   refine Om (.b (decide ((w64 (a2+v2))<(a1.length:Int)))) ?_
   rcases bft (decide ((w64 (a2+v2))<(a1.length:Int))) with hb5 | hb5
   ·replace hM:=ifT hM hb5
    refine Oy (want:=true) hb5 ?_
    refine Om (.sl .no 1 (a1.map cI)) ?_
    refine Oy (want:=true) hb5 ?_
    refine Om (.i a2) ?_
    refine Oy (want:=true) hb5 ?_
    refine Om (.i v2) ?_
    refine Oy (want:=true) hb5 ?_
    refine Oi (.i (w64 (a2+v2))) ?_
    refine Oy (want:=true) hb5 ?_
    obtain ⟨x6,hx6,hM⟩:=zai hM
    refine zaU (xs:=a1) (f:=cI) (z:=(w64 (a2+v2))) (u:=x6) (by decide) rfl rfl zaR hx6 ?_
    refine Oy (want:=true) hb5 ?_
    refine Olp (.i x6) zab zaf ?_
    refine Oy (want:=true) hb5 ?_
    refine Om (.sl .no 1 (a1.map cI)) ?_
    refine Oy (want:=true) hb5 ?_
    refine Om (.i a2) ?_
    refine Oy (want:=true) hb5 ?_
    refine Om (.i v2) ?_
    refine Oy (want:=true) hb5 ?_
    refine Oi (.i (w64 (a2+v2))) ?_
    refine Oy (want:=true) hb5 ?_
    refine Oi (.i (w64 ((w64 (a2+v2))-1))) ?_
    refine Oy (want:=true) hb5 ?_
    obtain ⟨x7,hx7,hM⟩:=zai hM
    refine zaU (xs:=a1) (f:=cI) (z:=(w64 ((w64 (a2+v2))-1))) (u:=x7) (by decide) rfl rfl zaR hx7 ?_
    refine Oy (want:=true) hb5 ?_
    refine Olp (.i x7) zab zaf ?_
    refine Oy (want:=true) hb5 ?_
    refine Oi (.i (w64 (x6-x7))) ?_
    refine Oy (want:=true) hb5 ?_
    refine Of ((Pulse.cells a0)) zdw ?_
    refine Oy (want:=true) hb5 ?_
    refine Olp (.i a0.Pitch) zab zaf ?_
    refine Oy (want:=true) hb5 ?_
    refine Of ((Pulse.cells a0)) zeJ ?_
    refine Oy (want:=true) hb5 ?_
    refine Olp (.i a0.Slack) zab zaf ?_
    refine Oy (want:=true) hb5 ?_
    refine Oi (.i (w64 (a0.Pitch-a0.Slack))) ?_
    refine Oy (want:=true) hb5 ?_
    refine Of ((Pulse.cells a0)) zdw ?_
    refine Oy (want:=true) hb5 ?_
    refine Olp (.i a0.Pitch) zab zaf ?_
    refine Oy (want:=true) hb5 ?_
    refine Of ((Pulse.cells a0)) zeJ ?_
    refine Oy (want:=true) hb5 ?_
    refine Olp (.i a0.Slack) zab zaf ?_
    refine Oy (want:=true) hb5 ?_
    refine Oi (.i (w64 (a0.Pitch+a0.Slack))) ?_
    refine Oy (want:=true) hb5 ?_
    obtain ⟨r8,hr8,hM⟩:=zai hM
    refine zau (bs:=[.i (w64 (x6-x7)),.i (w64 (a0.Pitch-a0.Slack)),.i (w64 (a0.Pitch+a0.Slack))]) (by decide) rfl rfl ((zb1 hr8).le (.k (.k (.k .nil)))) ?_
    refine Pt (.b r8) hb5 ?_
    refine Ni ?_
    exact zag r8 (.k (.k (.k (.k (.k .nil))))) ⟨(hS.keep [] rfl).up (by omega),hM⟩
   ·replace hM:=ifF hM hb5
    refine On (want:=true) hb5 ?_
    refine On (want:=true) hb5 ?_
    refine On (want:=true) hb5 ?_
    refine On (want:=true) hb5 ?_
    refine On (want:=true) hb5 ?_
    refine On (want:=true) hb5 ?_
    refine On (want:=true) hb5 ?_
    refine On (want:=true) hb5 ?_
    refine On (want:=true) hb5 ?_
    refine On (want:=true) hb5 ?_
    refine On (want:=true) hb5 ?_
    refine On (want:=true) hb5 ?_
    refine On (want:=true) hb5 ?_
    refine On (want:=true) hb5 ?_
    refine On (want:=true) hb5 ?_
    refine On (want:=true) hb5 ?_
    refine On (want:=true) hb5 ?_
    refine On (want:=true) hb5 ?_
    refine On (want:=true) hb5 ?_
    refine On (want:=true) hb5 ?_
    refine On (want:=true) hb5 ?_
    refine On (want:=true) hb5 ?_
    refine On (want:=true) hb5 ?_
    refine On (want:=true) hb5 ?_
    refine On (want:=true) hb5 ?_
    refine Pf (.b false) hb5 ?_
    refine Ni ?_
    exact zag false (.k (.k (.k (.k (.k .nil))))) ⟨(hS.keep [] rfl).up (by omega),hM⟩
theorem zmr {n:Nat} {a0:Pulse} {a1:List Int} {r:(List Int)×Bool} (hM:zhw n a0 a1=some r):zav Try.prog 87 [.agg (Pulse.cells a0),.sl .no 1 (a1.map cI)] (.tup [.sl .no 1 (r.1.map cI),.b r.2]):=by
 refine zaj mixed Try.func87 rfl (by decide) Try.ntmps87 (by simp) ?pure fun H0 g hf=>?_
 case pure=>exact .tup _ (zad (.sl _ _ (zaz (fun x=>(zad (.v _) zaG)))) (zad (.v _) zaG))
 rw [zah]
 change wpA _ _ _ _ (Fr.of [(0,.agg (Pulse.cells a0)),(1,.sl .no 1 (a1.map cI))]) H0 g
 have hS:=St.start hf
 refine Sq ?_
 refine Rg 3 ?_
 refine zbX (v:=.agg (Pulse.cells a0)) (cs:=(Pulse.cells a0)) hS (by decide) rfl rfl (by omega) fun H hS=>?_
 refine Oa (.sl .nil 0 []) ?_
 refine Oa (.b false) ?_
 refine Ni ?_
 refine zaZ (L':=[]) 0 2 hS rfl rfl rfl fun H hS=>?_
 refine Ws ?_
 refine Sq ?_
 refine Rg 1 ?_
 refine Oa (.sl .nil 0 []) ?_
 refine Ni ?_
 refine zmT [(1,.sl .no 1 (a1.map cI)),(2,.ep (Pulse.cells a0)),(6,.sl (.id (g+3+1)) 1 (([]:List Int).map cI))] 6 1 3 hS (by omega) (by decide) rfl (.k (.k (.k .nil))) fun H hS=>?_
 refine Sq ?_
 refine Rg 1 ?_
 refine Oa (.i 0) ?_
 refine Ni ?_
 refine Ws ?_
 refine zaC (J:=(List Int)) (fun j=>[(6,.sl (.id (g+3+1)) 1 (j.map cI))]) (fun j H' g'=>St (·<g) H0 [(g+3+1,.row 3 j.length)] H' g'/\zeH j=some r) ?_ ?_
 ·rintro v1 H g1 ⟨hS,hM⟩
  change wpA _ _ _ _ (Fr.of [(6,.sl (.id (g+3+1)) 1 (v1.map cI))]) _ _
  replace hS:St (·<g) H0 [(g+3+1,.row 3 v1.length)] H g1:=hS
  replace hM:zeH v1=some r:=hM
  refine Sq ?_
  refine Rg 3 ?_
  refine Om (.sl (.id (g+3+1)) 1 (v1.map cI)) ?_
  refine Oa (.sl (.id (g+3+1)) 1 (v1.map cI)) ?_
  refine Oa (.b true) ?_
  refine Ni ?_
  refine Ws ?_
  refine zaA ?_
  refine zaJ (x:=.tup [.sl (.id (g+3+1)) 1 (v1.map cI),.b true]) (f:=fun r=>.tup [.sl .no 1 (r.1.map cI),.b r.2]) (.inr rfl) ?_ (.tupL (.cons (.sl _ _ _) (.k .nil))) (Option.some.inj hM) hS
  exact (za2 (zac (x:=.sl (.id (g+3+1)) 1 (v1.map cI)) rfl) (zac (x:=.b true) rfl))
 ·refine zaq ?_
  refine zbr (V:=(List Int)×Int) (fun v=>[(1,.sl .no 1 (a1.map cI)),(2,.ep (Pulse.cells a0)),(6,.sl (.id (g+3+1)) 1 (v.1.map cI)),(7,.i v.2)]) (fun v m2 H' g'=>St (·<g) H0 [(g+3+1,.row 3 v.1.length)] H' g'/\zaY n a0 a1 m2 v.1 v.2=some r) (n:=n) (([]:List Int),0) (.k (.k (.k (.k .nil)))) ⟨(hS.keep [true] rfl).up (by omega),hM⟩ ?_
  rintro ⟨v2,v3⟩ m2 H g2 ⟨hS,hM⟩
  obtain _ | m2:=m2
  ·exact nomatch (show none=some _ from hM)
  change wpA _ _ _ _ (Fr.of [(1,.sl .no 1 (a1.map cI)),(2,.ep (Pulse.cells a0)),(6,.sl (.id (g+3+1)) 1 (v2.map cI)),(7,.i v3)]) _ _
  replace hS:St (·<g) H0 [(g+3+1,.row 3 v2.length)] H g2:=hS
  replace hM:zdO n a0 a1 (zaY n a0 a1 m2) v2 v3=some r:=hM
  refine Sq ?_
  refine Sq ?_
  refine Rg 4 ?_
  refine Om (.i v3) ?_
  refine Om (.sl .no 1 (a1.map cI)) ?_
  refine zcj (n:=a1.length) (by decide) rfl (List.length_map _) za9 ?_
  refine Oi (.b (decide (v3<(a1.length:Int)))) ?_
  refine Ni ?_
  refine Ws ?_
  rcases bft (decide (v3<(a1.length:Int))) with hb4 | hb4
  ·replace hM:=ifT hM hb4
   refine Ct hb4 ?_
   refine zar ?_
   refine Ws ?_
   refine zaq ?_
   refine Sq ?_
   refine Rg 6 ?_
   refine Olg (.agg (Pulse.cells a0)) za0 ?_
   refine Om (.sl .no 1 (a1.map cI)) ?_
   refine Om (.i v3) ?_
   obtain ⟨r5,hr5,hM⟩:=zai hM
   refine zau (bs:=[.agg (Pulse.cells a0),.sl .no 1 (a1.map cI),.i v3]) (by decide) rfl rfl ((zjd hr5).le (.k (.k (.k .nil)))) ?_
   refine Oa (.i r5) ?_
   refine Oa (.i 0) ?_
   refine Ni ?_
   refine Ws ?_
   refine zaC (J:=Int) (fun j=>[(1,.sl .no 1 (a1.map cI)),(2,.ep (Pulse.cells a0)),(6,.sl (.id (g+3+1)) 1 (v2.map cI)),(7,.i v3),(8,.i r5),(9,.i j)]) (fun j H' g'=>St (·<g) H0 [(g+3+1,.row 3 v2.length)] H' g'/\zdX (zaY n a0 a1 m2) a0 a1 v2 v3 r5 j=some r) ?_ ?_
   ·rintro v6 H g3 ⟨hS,hM⟩
    change wpA _ _ _ _ (Fr.of [(1,.sl .no 1 (a1.map cI)),(2,.ep (Pulse.cells a0)),(6,.sl (.id (g+3+1)) 1 (v2.map cI)),(7,.i v3),(8,.i r5),(9,.i v6)]) _ _
    replace hS:St (·<g) H0 [(g+3+1,.row 3 v2.length)] H g3:=hS
    replace hM:zdX (zaY n a0 a1 m2) a0 a1 v2 v3 r5 v6=some r:=hM
    refine Sq ?_
    refine zaC (J:=Bool) (fun j=>[(1,.sl .no 1 (a1.map cI)),(2,.ep (Pulse.cells a0)),(6,.sl (.id (g+3+1)) 1 (v2.map cI)),(7,.i v3),(8,.i r5),(9,.i v6),(58,.b j)]) (fun j H' g'=>St (·<g) H0 [(g+3+1,.row 3 v2.length)] H' g'/\zb0 (zaY n a0 a1 m2) a0 a1 v2 v3 r5 v6 j=some r) ?_ ?_
    ·rintro v7 H g4 ⟨hS,hM⟩
     change wpA _ _ _ _ (Fr.of [(1,.sl .no 1 (a1.map cI)),(2,.ep (Pulse.cells a0)),(6,.sl (.id (g+3+1)) 1 (v2.map cI)),(7,.i v3),(8,.i r5),(9,.i v6),(58,.b v7)]) _ _
     replace hS:St (·<g) H0 [(g+3+1,.row 3 v2.length)] H g4:=hS
     replace hM:zb0 (zaY n a0 a1 m2) a0 a1 v2 v3 r5 v6 v7=some r:=hM
     rcases bft v7 with hb8 | hb8
     ·replace hM:=ifT hM hb8
      refine Ct hb8 ?_
      refine Sq ?_
      refine Rg 2 ?_
      refine Oa (.sl .nil 0 []) ?_
      refine Oa (.b false) ?_
      refine Ni ?_
      replace hS:=hS.keep (L':=[]) [false] rfl
      refine Ws ?_
      refine zaA ?_
      refine zam ?_
      refine zas ?_
      refine zaL ?_
      refine zas ?_
      refine zaI ?_
      refine zaJ (x:=.tup [.sl .nil 0 [],.b false]) (f:=fun r=>.tup [.sl .no 1 (r.1.map cI),.b r.2]) (.inr rfl) ?_ (.tupL (.cons (.sl0 .nil 1 0) (.k .nil))) (Option.some.inj hM) hS
      exact (za2 (zac (x:=.sl .nil 0 []) rfl) (zac (x:=.b false) rfl))
     ·replace hM:=ifF hM hb8
      refine Cf hb8 ?_
      refine zar ?_
      refine Ws ?_
      refine Sq ?_
      refine Rg 12 ?_
      refine Om (.sl (.id (g+3+1)) 1 (v2.map cI)) ?_
      refine Om (.i r5) ?_
      refine Oi (.i (w64 (r5-1))) ?_
      refine Of ((Pulse.cells a0)) zcu ?_
      refine Olp (.i a0.Numbers) zab zaf ?_
      refine Oi (.i (w64 ((w64 (r5-1))*a0.Numbers))) ?_
      refine Om (.i v6) ?_
      refine Oi (.i (w64 ((w64 ((w64 (r5-1))*a0.Numbers))+v6))) ?_
      refine Oi (.i (w64 ((w64 ((w64 ((w64 (r5-1))*a0.Numbers))+v6))-1))) ?_
      refine zaK (es:=[[.i (w64 ((w64 ((w64 ((w64 (r5-1))*a0.Numbers))+v6))-1))]]) hS (by decide) zaR zcT rfl zcU rfl (by decide) (by omega) fun H hS=>?_
      obtain ⟨l9,hl9,hM⟩:=zai hM
      refine zcv (xs:=v2) (ys:=([w64 ((w64 ((w64 ((w64 (r5-1))*a0.Numbers))+v6))-1)]:List Int)) (zs:=l9) (f:=cI) (L':=[(g4+9,.row 3 1),(g+3+1,.row 3 l9.length)]) 1 hS (by decide) rfl rfl rfl rfl .no zaR zcT zcU hl9 rfl fun H hS=>?_
      refine Oa (.sl (.id (g+3+1)) 1 (l9.map cI)) ?_
      refine Ni ?_
      replace hS:=hS.keep (L':=[(g+3+1,.row 3 l9.length)]) [false,true] rfl
      refine Ws ?_
      refine Sq ?_
      refine Rg 6 ?_
      refine Om (.i v3) ?_
      refine Om (.i r5) ?_
      refine Om (.i v6) ?_
      refine Oi (.i (w64 (r5+v6))) ?_
      refine Oi (.i (w64 (v3+(w64 (r5+v6))))) ?_
      refine Oa (.i (w64 (v3+(w64 (r5+v6))))) ?_
      refine Ni ?_
      refine Ws ?_
      refine zaC (J:=Bool) (fun j=>[(1,.sl .no 1 (a1.map cI)),(2,.ep (Pulse.cells a0)),(6,.sl (.id (g+3+1)) 1 (l9.map cI)),(7,.i (w64 (v3+(w64 (r5+v6))))),(93,.b j)]) (fun j H' g'=>St (·<g) H0 [(g+3+1,.row 3 l9.length)] H' g'/\zdW (zaY n a0 a1 m2) v3 r5 v6 l9 j=some r) ?_ ?_
      ·rintro v10 H g5 ⟨hS,hM⟩
       change wpA _ _ _ _ (Fr.of [(1,.sl .no 1 (a1.map cI)),(2,.ep (Pulse.cells a0)),(6,.sl (.id (g+3+1)) 1 (l9.map cI)),(7,.i (w64 (v3+(w64 (r5+v6))))),(93,.b v10)]) _ _
       replace hS:St (·<g) H0 [(g+3+1,.row 3 l9.length)] H g5:=hS
       replace hM:zdW (zaY n a0 a1 m2) v3 r5 v6 l9 v10=some r:=hM
       rcases bft v10 with hb11 | hb11
       ·replace hM:=ifT hM hb11
        refine Ct hb11 ?_
        refine Sq ?_
        refine Rg 2 ?_
        refine Oa (.sl .nil 0 []) ?_
        refine Oa (.b false) ?_
        refine Ni ?_
        replace hS:=hS.keep (L':=[]) [false] rfl
        refine Ws ?_
        refine zaA ?_
        refine zas ?_
        refine zaL ?_
        refine zas ?_
        refine zaI ?_
        refine zaJ (x:=.tup [.sl .nil 0 [],.b false]) (f:=fun r=>.tup [.sl .no 1 (r.1.map cI),.b r.2]) (.inr rfl) ?_ (.tupL (.cons (.sl0 .nil 1 0) (.k .nil))) (Option.some.inj hM) hS
        exact (za2 (zac (x:=.sl .nil 0 []) rfl) (zac (x:=.b false) rfl))
       ·replace hM:=ifF hM hb11
        refine Cf hb11 ?_
        refine zar ?_
        refine zae ?_
        exact zaW (l9,w64 (v3+(w64 (r5+v6)))) (Nat.lt_succ_self _) (.k (.k (.k (.k .nil)))) ⟨(hS.keep [true] rfl).up (by omega),hM⟩
      ·have hS0:=hS
       refine zd1 (n:=19) rfl (by kernel_rfl) ?_
       refine Om (.i (w64 (v3+(w64 (r5+v6))))) ?_
       refine Om (.sl .no 1 (a1.map cI)) ?_
       refine zcj (n:=a1.length) (by decide) rfl (List.length_map _) za9 ?_
       refine Oi (.b (decide ((w64 (v3+(w64 (r5+v6))))<(a1.length:Int)))) ?_
       refine Om (.b (decide ((w64 (v3+(w64 (r5+v6))))<(a1.length:Int)))) ?_
       rcases bft (decide ((w64 (v3+(w64 (r5+v6))))<(a1.length:Int))) with hb12 | hb12
       ·replace hM:=ifT hM hb12
        refine Oy (want:=true) hb12 ?_
        refine Om (.sl .no 1 (a1.map cI)) ?_
        refine Oy (want:=true) hb12 ?_
        refine Om (.i (w64 (v3+(w64 (r5+v6))))) ?_
        refine Oy (want:=true) hb12 ?_
        obtain ⟨x13,hx13,hM⟩:=zai hM
        refine zaU (xs:=a1) (f:=cI) (z:=(w64 (v3+(w64 (r5+v6))))) (u:=x13) (by decide) rfl rfl zaR hx13 ?_
        refine Oy (want:=true) hb12 ?_
        refine Olp (.i x13) zab zaf ?_
        refine Oy (want:=true) hb12 ?_
        refine Om (.sl .no 1 (a1.map cI)) ?_
        refine Oy (want:=true) hb12 ?_
        refine Om (.i (w64 (v3+(w64 (r5+v6))))) ?_
        refine Oy (want:=true) hb12 ?_
        refine Oi (.i (w64 ((w64 (v3+(w64 (r5+v6))))-1))) ?_
        refine Oy (want:=true) hb12 ?_
        obtain ⟨x14,hx14,hM⟩:=zai hM
        refine zaU (xs:=a1) (f:=cI) (z:=(w64 ((w64 (v3+(w64 (r5+v6))))-1))) (u:=x14) (by decide) rfl rfl zaR hx14 ?_
        refine Oy (want:=true) hb12 ?_
        refine Olp (.i x14) zab zaf ?_
        refine Oy (want:=true) hb12 ?_
        refine Oi (.i (w64 (x13-x14))) ?_
        refine Oy (want:=true) hb12 ?_
        refine Of ((Pulse.cells a0)) zeK ?_
        refine Oy (want:=true) hb12 ?_
        refine Olp (.i a0.Pause) zab zaf ?_
        refine Oy (want:=true) hb12 ?_
        refine Oi (.b (decide ((w64 (x13-x14))<a0.Pause))) ?_
        refine Pt (.b (decide ((w64 (x13-x14))<a0.Pause))) hb12 ?_
        refine Ni ?_
        exact zag (decide ((w64 (x13-x14))<a0.Pause)) (.k (.k (.k (.k (.k .nil))))) ⟨(hS.keep [true] rfl).up (by omega),hM⟩
       ·replace hM:=ifF hM hb12
        refine On (want:=true) hb12 ?_
        refine On (want:=true) hb12 ?_
        refine On (want:=true) hb12 ?_
        refine On (want:=true) hb12 ?_
        refine On (want:=true) hb12 ?_
        refine On (want:=true) hb12 ?_
        refine On (want:=true) hb12 ?_
        refine On (want:=true) hb12 ?_
        refine On (want:=true) hb12 ?_
        refine On (want:=true) hb12 ?_
        refine On (want:=true) hb12 ?_
        refine On (want:=true) hb12 ?_
        refine On (want:=true) hb12 ?_
        refine Pf (.b false) hb12 ?_
        refine Ni ?_
        exact zag false (.k (.k (.k (.k (.k .nil))))) ⟨(hS.keep [true] rfl).up (by omega),hM⟩
    ·refine Rg 11 ?_
     refine Om (.i r5) ?_
     refine Of ((Pulse.cells a0)) zfo ?_
     refine Olp (.i a0.Letters) zab zaf ?_
     refine Oi (.b (decide (r5>a0.Letters))) ?_
     refine Om (.b (decide (r5>a0.Letters))) ?_
     rcases bft (decide (r5>a0.Letters)) with hb15 | hb15
     ·replace hM:=ifT hM hb15
      refine On (want:=false) hb15 ?_
      refine On (want:=false) hb15 ?_
      refine On (want:=false) hb15 ?_
      refine On (want:=false) hb15 ?_
      refine On (want:=false) hb15 ?_
      refine Pt (.b true) hb15 ?_
      refine Ni ?_
      exact zag true (.k (.k (.k (.k (.k (.k (.k .nil))))))) ⟨(hS.keep [true] rfl).up (by omega),hM⟩
     ·replace hM:=ifF hM hb15
      refine Oy (want:=false) hb15 ?_
      refine Om (.i v6) ?_
      refine Oy (want:=false) hb15 ?_
      refine Of ((Pulse.cells a0)) zcu ?_
      refine Oy (want:=false) hb15 ?_
      refine Olp (.i a0.Numbers) zab zaf ?_
      refine Oy (want:=false) hb15 ?_
      obtain ⟨r16,hr16,hM⟩:=zai hM
      refine zau (bs:=[.i v6,.i 1,.i a0.Numbers]) (by decide) rfl rfl ((zb1 hr16).le (.k (.k (.k .nil)))) ?_
      refine Oy (want:=false) hb15 ?_
      refine zd7 (e:=r16) (by decide) rfl ?_
      refine Pf (.b (!r16)) hb15 ?_
      refine Ni ?_
      exact zag (!r16) (.k (.k (.k (.k (.k (.k (.k .nil))))))) ⟨(hS.keep [true] rfl).up (by omega),hM⟩
   ·refine Sq ?_
    refine Rg 4 ?_
    refine Om (.i v3) ?_
    refine Om (.i r5) ?_
    refine Oi (.i (w64 (v3+r5))) ?_
    refine Oa (.i (w64 (v3+r5))) ?_
    refine Ni ?_
    refine Ws ?_
    refine zaC (J:=Bool) (fun j=>[(1,.sl .no 1 (a1.map cI)),(2,.ep (Pulse.cells a0)),(6,.sl (.id (g+3+1)) 1 (v2.map cI)),(7,.i v3),(8,.i r5),(9,.i 0),(10,.i (w64 (v3+r5))),(43,.b j)]) (fun j H' g'=>St (·<g) H0 [(g+3+1,.row 3 v2.length)] H' g'/\zdk n (zaY n a0 a1 m2) a0 a1 v2 v3 r5 j=some r) ?_ ?_
    ·rintro v17 H g6 ⟨hS,hM⟩
     change wpA _ _ _ _ (Fr.of [(1,.sl .no 1 (a1.map cI)),(2,.ep (Pulse.cells a0)),(6,.sl (.id (g+3+1)) 1 (v2.map cI)),(7,.i v3),(8,.i r5),(9,.i 0),(10,.i (w64 (v3+r5))),(43,.b v17)]) _ _
     replace hS:St (·<g) H0 [(g+3+1,.row 3 v2.length)] H g6:=hS
     replace hM:zdk n (zaY n a0 a1 m2) a0 a1 v2 v3 r5 v17=some r:=hM
     rcases bft v17 with hb18 | hb18
     ·replace hM:=ifT hM hb18
      refine Ct hb18 ?_
      refine Rg 5 ?_
      refine Olg (.agg (Pulse.cells a0)) za0 ?_
      refine Om (.sl .no 1 (a1.map cI)) ?_
      refine Om (.i (w64 (v3+r5))) ?_
      obtain ⟨r19,hr19,hM⟩:=zai hM
      refine zau (bs:=[.agg (Pulse.cells a0),.sl .no 1 (a1.map cI),.i (w64 (v3+r5))]) (by decide) rfl rfl ((zjd hr19).le (.k (.k (.k .nil)))) ?_
      refine Oa (.i r19) ?_
      refine Ni ?_
      exact zag r19 (.k (.k (.k (.k (.k (.k .nil)))))) ⟨(hS.keep [true] rfl).up (by omega),hM⟩
     ·replace hM:=ifF hM hb18
      refine Cf hb18 ?_
      refine zar ?_
      exact zag 0 (.k (.k (.k (.k (.k (.k .nil)))))) ⟨(hS.keep [true] rfl).up (by omega),hM⟩
    ·have hS0:=hS
     refine zd1 (n:=22) rfl (by kernel_rfl) ?_
     refine Om (.i (w64 (v3+r5))) ?_
     refine Om (.sl .no 1 (a1.map cI)) ?_
     refine zcj (n:=a1.length) (by decide) rfl (List.length_map _) za9 ?_
     refine Oi (.b (decide ((w64 (v3+r5))<(a1.length:Int)))) ?_
     refine Om (.b (decide ((w64 (v3+r5))<(a1.length:Int)))) ?_
     rcases bft (decide ((w64 (v3+r5))<(a1.length:Int))) with hb20 | hb20
     ·replace hM:=ifT hM hb20
      refine Oy (want:=true) hb20 ?_
      refine Om (.sl .no 1 (a1.map cI)) ?_
      refine Oy (want:=true) hb20 ?_
      refine Om (.i (w64 (v3+r5))) ?_
      refine Oy (want:=true) hb20 ?_
      obtain ⟨x21,hx21,hM⟩:=zai hM
      refine zaU (xs:=a1) (f:=cI) (z:=(w64 (v3+r5))) (u:=x21) (by decide) rfl rfl zaR hx21 ?_
      refine Oy (want:=true) hb20 ?_
      refine Olp (.i x21) zab zaf ?_
      refine Oy (want:=true) hb20 ?_
      refine Om (.sl .no 1 (a1.map cI)) ?_
      refine Oy (want:=true) hb20 ?_
      refine Om (.i (w64 (v3+r5))) ?_
      refine Oy (want:=true) hb20 ?_
      refine Oi (.i (w64 ((w64 (v3+r5))-1))) ?_
      refine Oy (want:=true) hb20 ?_
      obtain ⟨x22,hx22,hM⟩:=zai hM
      refine zaU (xs:=a1) (f:=cI) (z:=(w64 ((w64 (v3+r5))-1))) (u:=x22) (by decide) rfl rfl zaR hx22 ?_
      refine Oy (want:=true) hb20 ?_
      refine Olp (.i x22) zab zaf ?_
      refine Oy (want:=true) hb20 ?_
      refine Oi (.i (w64 (x21-x22))) ?_
      refine Oy (want:=true) hb20 ?_
      refine Of ((Pulse.cells a0)) zgK ?_
      refine Oy (want:=true) hb20 ?_
      refine Olp (.i a0.Gap) zab zaf ?_
      refine Oy (want:=true) hb20 ?_
      refine Of ((Pulse.cells a0)) zeK ?_
      refine Oy (want:=true) hb20 ?_
      refine Olp (.i a0.Pause) zab zaf ?_
      refine Oy (want:=true) hb20 ?_
      refine Oi (.i (w64 (a0.Pause-1))) ?_
      refine Oy (want:=true) hb20 ?_
      obtain ⟨r23,hr23,hM⟩:=zai hM
      refine zau (bs:=[.i (w64 (x21-x22)),.i a0.Gap,.i (w64 (a0.Pause-1))]) (by decide) rfl rfl ((zb1 hr23).le (.k (.k (.k .nil)))) ?_
      refine Pt (.b r23) hb20 ?_
      refine Ni ?_
      exact zag r23 (.k (.k (.k (.k (.k (.k (.k (.k .nil)))))))) ⟨(hS.keep [true] rfl).up (by omega),hM⟩
     ·replace hM:=ifF hM hb20
      refine On (want:=true) hb20 ?_
      refine On (want:=true) hb20 ?_
      refine On (want:=true) hb20 ?_
      refine On (want:=true) hb20 ?_
      refine On (want:=true) hb20 ?_
      refine On (want:=true) hb20 ?_
      refine On (want:=true) hb20 ?_
      refine On (want:=true) hb20 ?_
      refine On (want:=true) hb20 ?_
      refine On (want:=true) hb20 ?_
      refine On (want:=true) hb20 ?_
      refine On (want:=true) hb20 ?_
      refine On (want:=true) hb20 ?_
      refine On (want:=true) hb20 ?_
      refine On (want:=true) hb20 ?_
      refine On (want:=true) hb20 ?_
      refine Pf (.b false) hb20 ?_
      refine Ni ?_
      exact zag false (.k (.k (.k (.k (.k (.k (.k (.k .nil)))))))) ⟨(hS.keep [true] rfl).up (by omega),hM⟩
  ·replace hM:=ifF hM hb4
   refine Cf hb4 ?_
   refine zbl ?_
   refine zap ?_
   refine zan ?_
   refine zat ?_
   exact zag v2 (.k .nil) ⟨(hS.keep [true] rfl).up (by omega),hM⟩
theorem zpr {n:Nat} {a0:List Int} {a1:Int} {r:Bool} (hM:zmb n a0 a1=some r):zav Try.prog 91 [.sl .no 1 (a0.map cI),.i a1] (.b r):=by
 refine zaj mixed Try.func91 rfl (by decide) Try.ntmps91 (by simp) ?pure fun H0 g hf=>?_
 case pure=>exact .v _
 rw [zah]
 change wpA _ _ _ _ (Fr.of [(0,.sl .no 1 (a0.map cI)),(1,.i a1)]) H0 g
 have hS:=St.start hf
 refine Sq ?_
 refine Rg 1 ?_
 refine Oa (.b false) ?_
 refine Ni ?_
 refine Ws ?_
 refine zaC (J:=Unit) (fun j=>[]) (fun j H' g'=>St (·<g) H0 [] H' g'/\zhx=some r) ?_ ?_
 ·rintro _ H g1 ⟨hS,hM⟩
  change wpA _ _ _ _ (Fr.of []) _ _
  replace hS:St (·<g) H0 [] H g1:=hS
  replace hM:zhx=some r:=hM
  refine Sq ?_
  refine Rg 1 ?_
  refine Oa (.b false) ?_
  refine Ni ?_
  refine Ws ?_
  refine zaA ?_
  refine zaJ (x:=.b false) (f:=fun r=>.b r) (.inr rfl) ?_ (.refl _) (Option.some.inj hM) hS
  exact (zao (zac (x:=.b false) rfl))
 ·refine Sq ?_
  refine Rg 1 ?_
  refine Oa (.i 0) ?_
  refine Ni ?_
  refine Ws ?_
  refine zaq ?_
  refine zbr (V:=Int) (fun v=>[(0,.sl .no 1 (a0.map cI)),(1,.i a1),(5,.i v)]) (fun v m2 H' g'=>St (·<g) H0 [] H' g'/\zeU a0 a1 m2 v=some r) (n:=n) 0 (.k (.k (.k .nil))) ⟨(hS.keep [] rfl).up (by omega),hM⟩ ?_
  rintro v1 m2 H g2 ⟨hS,hM⟩
  obtain _ | m2:=m2
  ·exact nomatch (show none=some _ from hM)
  change wpA _ _ _ _ (Fr.of [(0,.sl .no 1 (a0.map cI)),(1,.i a1),(5,.i v1)]) _ _
  replace hS:St (·<g) H0 [] H g2:=hS
  replace hM:zgl a0 a1 (zeU a0 a1 m2) v1=some r:=hM
  refine Sq ?_
  refine Sq ?_
  refine Rg 4 ?_
  refine Om (.i v1) ?_
  refine Om (.sl .no 1 (a0.map cI)) ?_
  refine zcj (n:=a0.length) (by decide) rfl (List.length_map _) za9 ?_
  refine Oi (.b (decide (v1<(a0.length:Int)))) ?_
  refine Ni ?_
  refine Ws ?_
  rcases bft (decide (v1<(a0.length:Int))) with hb2 | hb2
  ·replace hM:=ifT hM hb2
   refine Ct hb2 ?_
   refine zar ?_
   refine Ws ?_
   refine Sq ?_
   refine zaq ?_
   refine Sq ?_
   refine Rg 6 ?_
   refine Om (.sl .no 1 (a0.map cI)) ?_
   refine Om (.i v1) ?_
   obtain ⟨x3,hx3,hM⟩:=zai hM
   refine zaU (xs:=a0) (f:=cI) (z:=v1) (u:=x3) (by decide) rfl rfl zaR hx3 ?_
   refine Olp (.i x3) zab zaf ?_
   refine Om (.i a1) ?_
   refine Oi (.b (x3==a1)) ?_
   refine Ni ?_
   refine Ws ?_
   rcases bft (x3==a1) with hb4 | hb4
   ·replace hM:=ifT hM hb4
    refine Ct hb4 ?_
    refine Sq ?_
    refine Rg 1 ?_
    refine Oa (.b true) ?_
    refine Ni ?_
    refine Ws ?_
    refine zaA ?_
    refine zas ?_
    refine zam ?_
    refine zaL ?_
    refine zas ?_
    refine zaI ?_
    refine zaJ (x:=.b true) (f:=fun r=>.b r) (.inr rfl) ?_ (.refl _) (Option.some.inj hM) hS
    exact (zao (zac (x:=.b true) rfl))
   ·replace hM:=ifF hM hb4
    refine Cf hb4 ?_
    refine zar ?_
    refine zae ?_
    refine Ws ?_
    refine Rg 3 ?_
    refine Om (.i v1) ?_
    refine Oi (.i (w64 (v1+1))) ?_
    refine Oa (.i (w64 (v1+1))) ?_
    refine Ni ?_
    exact zaW (w64 (v1+1)) (Nat.lt_succ_self _) (.k (.k (.k .nil))) ⟨(hS.keep [] rfl).up (by omega),hM⟩
  ·replace hM:=ifF hM hb2
   refine Cf hb2 ?_
   refine zbl ?_
   refine zap ?_
   refine zan ?_
   refine zat ?_
   exact zag () .nil ⟨(hS.keep [] rfl).up (by omega),hM⟩
theorem zm7 {n:Nat} {a0:List Int} {a1:List Int} {r:(List Int)} (hM:zju n a0 a1=some r):zav Try.prog 88 [.sl .no 1 (a0.map cI),.sl .no 1 (a1.map cI)] (.sl .no 1 (r.map cI)):=by
 refine zaj mixed Try.func88 rfl (by decide) Try.ntmps88 (by simp) ?pure fun H0 g hf=>?_
 case pure=>exact .sl _ _ (zaz (fun x=>(zad (.v _) zaG)))
 rw [zah]
 change wpA _ _ _ _ (Fr.of [(0,.sl .no 1 (a0.map cI)),(1,.sl .no 1 (a1.map cI))]) H0 g
 have hS:=St.start hf
 refine Sq ?_
 refine Rg 1 ?_
 refine Oa (.sl .nil 0 []) ?_
 refine Ni ?_
 refine Ws ?_
 refine Sq ?_
 refine Rg 1 ?_
 refine Oa (.sl .nil 0 []) ?_
 refine Ni ?_
 refine zmT [(0,.sl .no 1 (a0.map cI)),(1,.sl .no 1 (a1.map cI)),(5,.sl (.id (g+1+1)) 1 (([]:List Int).map cI))] 5 1 3 hS (by omega) (by decide) rfl (.k (.k (.k .nil))) fun H hS=>?_
 refine zaC (J:=(List Int)) (fun j=>[(5,.sl (.id (g+1+1)) 1 (j.map cI))]) (fun j H' g'=>St (·<g) H0 [(g+1+1,.row 3 j.length)] H' g'/\zgm j=some r) ?_ ?_
 ·rintro v1 H g1 ⟨hS,hM⟩
  change wpA _ _ _ _ (Fr.of [(5,.sl (.id (g+1+1)) 1 (v1.map cI))]) _ _
  replace hS:St (·<g) H0 [(g+1+1,.row 3 v1.length)] H g1:=hS
  replace hM:zgm v1=some r:=hM
  refine Sq ?_
  refine Rg 2 ?_
  refine Om (.sl (.id (g+1+1)) 1 (v1.map cI)) ?_
  refine Oa (.sl (.id (g+1+1)) 1 (v1.map cI)) ?_
  refine Ni ?_
  refine Ws ?_
  refine zaA ?_
  refine zaJ (x:=.sl (.id (g+1+1)) 1 (v1.map cI)) (f:=fun r=>.sl .no 1 (r.map cI)) (.inr rfl) ?_ (.sl _ _ _) (Option.some.inj hM) hS
  exact (zao (zac (x:=.sl (.id (g+1+1)) 1 (v1.map cI)) rfl))
 ·refine Sq ?_
  refine Rg 1 ?_
  refine Oa (.i 0) ?_
  refine Ni ?_
  refine Ws ?_
  refine zaq ?_
  refine zbr (V:=(List Int)×Int) (fun v=>[(0,.sl .no 1 (a0.map cI)),(1,.sl .no 1 (a1.map cI)),(5,.sl (.id (g+1+1)) 1 (v.1.map cI)),(6,.i v.2)]) (fun v m2 H' g'=>St (·<g) H0 [(g+1+1,.row 3 v.1.length)] H' g'/\zcK n a0 a1 m2 v.1 v.2=some r) (n:=n) (([]:List Int),0) (.k (.k (.k (.k .nil)))) ⟨(hS.keep [true] rfl).up (by omega),hM⟩ ?_
  rintro ⟨v2,v3⟩ m2 H g2 ⟨hS,hM⟩
  obtain _ | m2:=m2
  ·exact nomatch (show none=some _ from hM)
  change wpA _ _ _ _ (Fr.of [(0,.sl .no 1 (a0.map cI)),(1,.sl .no 1 (a1.map cI)),(5,.sl (.id (g+1+1)) 1 (v2.map cI)),(6,.i v3)]) _ _
  replace hS:St (·<g) H0 [(g+1+1,.row 3 v2.length)] H g2:=hS
  replace hM:zfk n a0 a1 (zcK n a0 a1 m2) v2 v3=some r:=hM
  refine Sq ?_
  refine Sq ?_
  refine Rg 4 ?_
  refine Om (.i v3) ?_
  refine Om (.sl .no 1 (a0.map cI)) ?_
  refine zcj (n:=a0.length) (by decide) rfl (List.length_map _) za9 ?_
  refine Oi (.b (decide (v3<(a0.length:Int)))) ?_
  refine Ni ?_
  refine Ws ?_
  rcases bft (decide (v3<(a0.length:Int))) with hb4 | hb4
  ·replace hM:=ifT hM hb4
   refine Ct hb4 ?_
   refine zar ?_
   refine Ws ?_
   refine zaC (J:=(List Int)) (fun j=>[(0,.sl .no 1 (a0.map cI)),(1,.sl .no 1 (a1.map cI)),(5,.sl (.id (g+1+1)) 1 (j.map cI)),(6,.i v3)]) (fun j H' g'=>St (·<g) H0 [(g+1+1,.row 3 j.length)] H' g'/\zfj (zcK n a0 a1 m2) v3 j=some r) ?_ ?_
   ·rintro v5 H g3 ⟨hS,hM⟩
    change wpA _ _ _ _ (Fr.of [(0,.sl .no 1 (a0.map cI)),(1,.sl .no 1 (a1.map cI)),(5,.sl (.id (g+1+1)) 1 (v5.map cI)),(6,.i v3)]) _ _
    replace hS:St (·<g) H0 [(g+1+1,.row 3 v5.length)] H g3:=hS
    replace hM:zfj (zcK n a0 a1 m2) v3 v5=some r:=hM
    refine Rg 3 ?_
    refine Om (.i v3) ?_
    refine Oi (.i (w64 (v3+1))) ?_
    refine Oa (.i (w64 (v3+1))) ?_
    refine Ni ?_
    exact zaW (v5,w64 (v3+1)) (Nat.lt_succ_self _) (.k (.k (.k (.k .nil)))) ⟨(hS.keep [true] rfl).up (by omega),hM⟩
   ·refine zaq ?_
    refine Sq ?_
    refine Rg 4 ?_
    refine Om (.sl .no 1 (a1.map cI)) ?_
    refine Om (.i v3) ?_
    obtain ⟨r6,hr6,hM⟩:=zai hM
    refine zau (bs:=[.sl .no 1 (a1.map cI),.i v3]) (by decide) rfl rfl ((zpr hr6).le (.k (.k .nil))) ?_
    refine zd7 (e:=r6) (by decide) rfl ?_
    refine Ni ?_
    refine Ws ?_
    rcases bft (!r6) with hb7 | hb7
    ·replace hM:=ifT hM hb7
     refine Ct hb7 ?_
     refine Rg 8 ?_
     refine Om (.sl (.id (g+1+1)) 1 (v2.map cI)) ?_
     refine Om (.sl .no 1 (a0.map cI)) ?_
     refine Om (.i v3) ?_
     obtain ⟨x8,hx8,hM⟩:=zai hM
     refine zaU (xs:=a0) (f:=cI) (z:=v3) (u:=x8) (by decide) rfl rfl zaR hx8 ?_
     refine Olp (.i x8) zab zaf ?_
     refine zaK (es:=[[.i x8]]) hS (by decide) zaR zcT rfl zcU rfl (by decide) (by omega) fun H hS=>?_
     obtain ⟨l9,hl9,hM⟩:=zai hM
     refine zcv (xs:=v2) (ys:=([x8]:List Int)) (zs:=l9) (f:=cI) (L':=[(g2+4+4+5,.row 3 1),(g+1+1,.row 3 l9.length)]) 1 hS (by decide) rfl rfl rfl rfl .no zaR zcT zcU hl9 rfl fun H hS=>?_
     refine Oa (.sl (.id (g+1+1)) 1 (l9.map cI)) ?_
     refine Ni ?_
     refine zae ?_
     exact zag l9 (.k (.k (.k (.k .nil)))) ⟨(hS.keep [false,true] rfl).up (by omega),hM⟩
    ·replace hM:=ifF hM hb7
     refine Cf hb7 ?_
     refine zar ?_
     refine zae ?_
     exact zag v2 (.k (.k (.k (.k .nil)))) ⟨(hS.keep [true] rfl).up (by omega),hM⟩
  ·replace hM:=ifF hM hb4
   refine Cf hb4 ?_
   refine zbl ?_
   refine zap ?_
   refine zan ?_
   refine zat ?_
   exact zag v2 (.k .nil) ⟨(hS.keep [true] rfl).up (by omega),hM⟩
theorem zjY {n:Nat} {a0:Pulse} {a1:Int} {r:(List Reading)} (hM:zfK n a0 a1=some r):zav Try.prog 77 [.agg (Pulse.cells a0),.i a1] (.sl .no 2 (r.map Reading.cells)):=by
 refine zaj mixed Try.func77 rfl (by decide) Try.ntmps77 (by simp) ?pure fun H0 g hf=>?_
 case pure=>exact .sl _ _ (zaz (fun x=>(zad (.sl _ _ (zaz (fun x=>(zad (.v _) zaG)))) (zad (.sl _ _ (zaz (fun x=>(zad (.v _) zaG)))) zaG))))
 rw [zah]
 change wpA _ _ _ _ (Fr.of [(0,.agg (Pulse.cells a0)),(1,.i a1)]) H0 g
 have hS:=St.start hf
 refine Sq ?_
 refine Rg 2 ?_
 refine zbX (v:=.agg (Pulse.cells a0)) (cs:=(Pulse.cells a0)) hS (by decide) rfl rfl (by omega) fun H hS=>?_
 refine Oa (.sl .nil 0 []) ?_
 refine Ni ?_
 refine zaZ (L':=[]) 0 2 hS rfl rfl rfl fun H hS=>?_
 refine Ws ?_
 refine Sq ?_
 refine Rg 1 ?_
 refine Oa (.sl .nil 0 []) ?_
 refine Ni ?_
 refine zmT [(1,.i a1),(2,.ep (Pulse.cells a0)),(5,.sl (.id (g+2+1)) 2 (([]:List Reading).map Reading.cells))] 5 2 98 hS (by omega) (by decide) rfl (.k (.k (.k .nil))) fun H hS=>?_
 refine Sq ?_
 refine Rg 6 ?_
 refine Of ((Pulse.cells a0)) zcV ?_
 refine Olp (.sl .no 1 (a0.Times.map cI)) za6 zbx ?_
 refine zcj (n:=a0.Times.length) (by decide) rfl (List.length_map _) za9 ?_
 refine Om (.i a1) ?_
 obtain ⟨r1,hr1,hM⟩:=zai hM
 refine zau (bs:=[.sl .nil 0 [],.i 0,.i (a0.Times.length:Int),.i a1]) (by decide) rfl rfl ((zjT hr1).le (.cons (.sl0 .nil 1 0) (.k (.k (.k .nil))))) ?_
 refine Oa (.sl .no 1 (r1.map (cL 1 cI))) ?_
 refine Ni ?_
 refine Ws ?_
 refine zaC (J:=(List Reading)) (fun j=>[(5,.sl (.id (g+2+1)) 2 (j.map Reading.cells))]) (fun j H' g'=>St (·<g) H0 [(g+2+1,.row 98 j.length)] H' g'/\zez j=some r) ?_ ?_
 ·rintro v2 H g1 ⟨hS,hM⟩
  change wpA _ _ _ _ (Fr.of [(5,.sl (.id (g+2+1)) 2 (v2.map Reading.cells))]) _ _
  replace hS:St (·<g) H0 [(g+2+1,.row 98 v2.length)] H g1:=hS
  replace hM:zez v2=some r:=hM
  refine Sq ?_
  refine Rg 2 ?_
  refine Om (.sl (.id (g+2+1)) 2 (v2.map Reading.cells)) ?_
  refine Oa (.sl (.id (g+2+1)) 2 (v2.map Reading.cells)) ?_
  refine Ni ?_
  refine Ws ?_
  refine zaA ?_
  refine zaJ (x:=.sl (.id (g+2+1)) 2 (v2.map Reading.cells)) (f:=fun r=>.sl .no 2 (r.map Reading.cells)) (.inr rfl) ?_ (.sl _ _ _) (Option.some.inj hM) hS
  exact (zao (zac (x:=.sl (.id (g+2+1)) 2 (v2.map Reading.cells)) rfl))
 ·refine Sq ?_
  refine Rg 1 ?_
  refine Oa (.i 0) ?_
  refine Ni ?_
  refine Ws ?_
  refine zaq ?_
  refine zbr (V:=(List Reading)×Int) (fun v=>[(2,.ep (Pulse.cells a0)),(5,.sl (.id (g+2+1)) 2 (v.1.map Reading.cells)),(6,.sl .no 1 (r1.map (cL 1 cI))),(7,.i v.2)]) (fun v m2 H' g'=>St (·<g) H0 [(g+2+1,.row 98 v.1.length)] H' g'/\zbC n a0 r1 m2 v.1 v.2=some r) (n:=n) (([]:List Reading),0) (.k (.k (.k (.k .nil)))) ⟨(hS.keep [true] rfl).up (by omega),hM⟩ ?_
  rintro ⟨v3,v4⟩ m2 H g2 ⟨hS,hM⟩
  obtain _ | m2:=m2
  ·exact nomatch (show none=some _ from hM)
  change wpA _ _ _ _ (Fr.of [(2,.ep (Pulse.cells a0)),(5,.sl (.id (g+2+1)) 2 (v3.map Reading.cells)),(6,.sl .no 1 (r1.map (cL 1 cI))),(7,.i v4)]) _ _
  replace hS:St (·<g) H0 [(g+2+1,.row 98 v3.length)] H g2:=hS
  replace hM:zdI n a0 r1 (zbC n a0 r1 m2) v3 v4=some r:=hM
  refine Sq ?_
  refine Sq ?_
  refine Rg 4 ?_
  refine Om (.i v4) ?_
  refine Om (.sl .no 1 (r1.map (cL 1 cI))) ?_
  refine zcj (n:=r1.length) (by decide) rfl (List.length_map _) zkb ?_
  refine Oi (.b (decide (v4<(r1.length:Int)))) ?_
  refine Ni ?_
  refine Ws ?_
  rcases bft (decide (v4<(r1.length:Int))) with hb5 | hb5
  ·replace hM:=ifT hM hb5
   refine Ct hb5 ?_
   refine zar ?_
   refine Ws ?_
   refine zaC (J:=(List Reading)) (fun j=>[(2,.ep (Pulse.cells a0)),(5,.sl (.id (g+2+1)) 2 (j.map Reading.cells)),(6,.sl .no 1 (r1.map (cL 1 cI))),(7,.i v4)]) (fun j H' g'=>St (·<g) H0 [(g+2+1,.row 98 j.length)] H' g'/\zdv (zbC n a0 r1 m2) v4 j=some r) ?_ ?_
   ·rintro v6 H g3 ⟨hS,hM⟩
    change wpA _ _ _ _ (Fr.of [(2,.ep (Pulse.cells a0)),(5,.sl (.id (g+2+1)) 2 (v6.map Reading.cells)),(6,.sl .no 1 (r1.map (cL 1 cI))),(7,.i v4)]) _ _
    replace hS:St (·<g) H0 [(g+2+1,.row 98 v6.length)] H g3:=hS
    replace hM:zdv (zbC n a0 r1 m2) v4 v6=some r:=hM
    refine Rg 3 ?_
    refine Om (.i v4) ?_
    refine Oi (.i (w64 (v4+1))) ?_
    refine Oa (.i (w64 (v4+1))) ?_
    refine Ni ?_
    exact zaW (v6,w64 (v4+1)) (Nat.lt_succ_self _) (.k (.k (.k (.k .nil)))) ⟨(hS.keep [true] rfl).up (by omega),hM⟩
   ·refine zaq ?_
    refine Sq ?_
    have hS0:=hS
    refine zd1 (n:=14) rfl (by kernel_rfl) ?_
    refine Olg (.agg (Pulse.cells a0)) za0 ?_
    refine Of ((Pulse.cells a0)) zcV ?_
    refine Olp (.sl .no 1 (a0.Times.map cI)) za6 zbx ?_
    refine Om (.sl .no 1 (r1.map (cL 1 cI))) ?_
    refine Om (.i v4) ?_
    obtain ⟨x7,hx7,hM⟩:=zai hM
    refine zaU (xs:=r1) (f:=(cL 1 cI)) (z:=v4) (u:=x7) (by decide) rfl rfl zia hx7 ?_
    refine Olp (.sl .no 1 (x7.map cI)) za6 zbx ?_
    obtain ⟨r8,hr8,hM⟩:=zai hM
    refine zau (bs:=[.sl .no 1 (a0.Times.map cI),.sl .no 1 (x7.map cI)]) (by decide) rfl rfl ((zm7 hr8).le (.k (.k .nil))) ?_
    obtain ⟨r9,hr9,hM⟩:=zai hM
    refine zau (bs:=[.agg (Pulse.cells a0),.sl .no 1 (r8.map cI)]) (by decide) rfl rfl ((zmr hr9).le (.k (.k .nil))) ?_
    refine Om (.tup [.sl .no 1 (r9.1.map cI),.b r9.2]) ?_
    refine Ox (.sl .no 1 (r9.1.map cI)) ?_
    refine Ox (.b r9.2) ?_
    refine Oa (.sl .no 1 (r9.1.map cI)) ?_
    refine Oa (.b r9.2) ?_
    refine Ni ?_
    refine Ws ?_
    refine Sq ?_
    refine Rg 1 ?_
    refine Om (.b r9.2) ?_
    refine Ni ?_
    refine Ws ?_
    rcases bft r9.2 with hb10 | hb10
    ·replace hM:=ifT hM hb10
     refine Ct hb10 ?_
     refine Rg 10 ?_
     refine Om (.sl (.id (g+2+1)) 2 (v3.map Reading.cells)) ?_
     refine Om (.sl .no 1 (r1.map (cL 1 cI))) ?_
     refine Om (.i v4) ?_
     obtain ⟨x11,hx11,hM⟩:=zai hM
     refine zaU (xs:=r1) (f:=(cL 1 cI)) (z:=v4) (u:=x11) (by decide) rfl rfl zia hx11 ?_
     refine Olp (.sl .no 1 (x11.map cI)) za6 zbx ?_
     refine Om (.sl .no 1 (r9.1.map cI)) ?_
     refine zbD (cs:=[.sl .no 1 (x11.map cI),.sl .no 1 (r9.1.map cI)]) (by decide) zqF ztk rfl ?_
     refine zaK (es:=[[.sl .no 1 (x11.map cI),.sl .no 1 (r9.1.map cI)]]) hS (by decide) zkN zqD rfl zqE rfl (by decide) (by omega) fun H hS=>?_
     obtain ⟨l12,hl12,hM⟩:=zai hM
     refine zcv (xs:=v3) (ys:=([(⟨x11,r9.1⟩:Reading)]:List Reading)) (zs:=l12) (f:=Reading.cells) (L':=[(g2+4+14+1+7,.row 98 1),(g+2+1,.row 98 l12.length)]) 1 hS (by decide) rfl rfl rfl rfl .no zkN zqD zqE hl12 rfl fun H hS=>?_
     refine Oa (.sl (.id (g+2+1)) 2 (l12.map Reading.cells)) ?_
     refine Ni ?_
     refine zae ?_
     exact zag l12 (.k (.k (.k (.k .nil)))) ⟨(hS.keep [false,true] rfl).up (by omega),hM⟩
    ·replace hM:=ifF hM hb10
     refine Cf hb10 ?_
     refine zar ?_
     refine zae ?_
     exact zag v3 (.k (.k (.k (.k .nil)))) ⟨(hS.keep [true] rfl).up (by omega),hM⟩
  ·replace hM:=ifF hM hb5
   refine Cf hb5 ?_
   refine zbl ?_
   refine zap ?_
   refine zan ?_
   refine zat ?_
   exact zag v3 (.k .nil) ⟨(hS.keep [true] rfl).up (by omega),hM⟩
theorem zms {n:Nat} {a0:Pulse} {a1:Bool} {r:(List Reading)×Int} (hM:zgH n a0 a1=some r):zav Try.prog 53 [.agg (Pulse.cells a0),.b a1] (.tup [.sl .no 2 (r.1.map Reading.cells),.i r.2]):=by
 refine zaj mixed Try.func53 rfl (by decide) Try.ntmps53 (by simp) ?pure fun H0 g hf=>?_
 case pure=>exact .tup _ (zad (.sl _ _ (zaz (fun x=>(zad (.sl _ _ (zaz (fun x=>(zad (.v _) zaG)))) (zad (.sl _ _ (zaz (fun x=>(zad (.v _) zaG)))) zaG))))) (zad (.v _) zaG))
 rw [zah]
 change wpA _ _ _ _ (Fr.of [(0,.agg (Pulse.cells a0)),(1,.b a1)]) H0 g
 have hS:=St.start hf
 refine Sq ?_
 refine Rg 3 ?_
 refine zbX (v:=.agg (Pulse.cells a0)) (cs:=(Pulse.cells a0)) hS (by decide) rfl rfl (by omega) fun H hS=>?_
 refine Oa (.sl .nil 0 []) ?_
 refine Oa (.i 0) ?_
 refine Ni ?_
 refine zaZ (L':=[]) 0 2 hS rfl rfl rfl fun H hS=>?_
 refine Ws ?_
 refine Sq ?_
 refine Sq ?_
 refine Rg 3 ?_
 refine Olg (.agg (Pulse.cells a0)) za0 ?_
 obtain ⟨r1,hr1,hM⟩:=zai hM
 refine zau (bs:=[.agg (Pulse.cells a0)]) (by decide) rfl rfl ((zhz hr1).le (.k .nil)) ?_
 refine Oa (.i r1) ?_
 refine Ni ?_
 refine Ws ?_
 refine Sq ?_
 refine Rg 2 ?_
 refine Om (.i r1) ?_
 refine Oi (.b (r1 != 0)) ?_
 refine Ni ?_
 refine Ws ?_
 rcases bft (r1 != 0) with hb2 | hb2
 ·replace hM:=ifT hM hb2
  refine Ct hb2 ?_
  refine Sq ?_
  refine Rg 3 ?_
  refine Om (.i r1) ?_
  refine Oa (.sl .nil 0 []) ?_
  refine Oa (.i r1) ?_
  refine Ni ?_
  refine Ws ?_
  refine zaA ?_
  refine zam ?_
  refine zaJ (x:=.tup [.sl .nil 0 [],.i r1]) (f:=fun r=>.tup [.sl .no 2 (r.1.map Reading.cells),.i r.2]) (.inr rfl) ?_ (.tupL (.cons (.sl0 .nil 2 0) (.k .nil))) (Option.some.inj hM) hS
  exact (za2 (zac (x:=.sl .nil 0 []) rfl) (zac (x:=.i r1) rfl))
 ·replace hM:=ifF hM hb2
  refine Cf hb2 ?_
  refine zar ?_
  refine Ws ?_
  refine Sq ?_
  refine Sq ?_
  refine Rg 2 ?_
  refine Om (.b a1) ?_
  refine zd7 (e:=a1) (by decide) rfl ?_
  refine Ni ?_
  refine Ws ?_
  rcases bft (!a1) with hb3 | hb3
  ·replace hM:=ifT hM hb3
   refine Ct hb3 ?_
   refine Sq ?_
   refine Rg 2 ?_
   refine Oa (.sl .nil 0 []) ?_
   refine Oa (.i 1) ?_
   refine Ni ?_
   refine Ws ?_
   refine zaA ?_
   refine zam ?_
   refine zaJ (x:=.tup [.sl .nil 0 [],.i 1]) (f:=fun r=>.tup [.sl .no 2 (r.1.map Reading.cells),.i r.2]) (.inr rfl) ?_ (.tupL (.cons (.sl0 .nil 2 0) (.k .nil))) (Option.some.inj hM) hS
   exact (za2 (zac (x:=.sl .nil 0 []) rfl) (zac (x:=.i 1) rfl))
  ·replace hM:=ifF hM hb3
   refine Cf hb3 ?_
   refine zar ?_
   refine Ws ?_
   refine Sq ?_
   refine Rg 5 ?_
   refine Olg (.agg (Pulse.cells a0)) za0 ?_
   refine Of ((Pulse.cells a0)) zgL ?_
   refine Olp (.i a0.Sparks) zab zaf ?_
   obtain ⟨r4,hr4,hM⟩:=zai hM
   refine zau (bs:=[.agg (Pulse.cells a0),.i a0.Sparks]) (by decide) rfl rfl ((zjY hr4).le (.k (.k .nil))) ?_
   refine Oa (.sl .no 2 (r4.map Reading.cells)) ?_
   refine Ni ?_
   refine Ws ?_
   refine Sq ?_
   refine Sq ?_
   refine Rg 3 ?_
   refine Om (.sl .no 2 (r4.map Reading.cells)) ?_
   refine zcj (n:=r4.length) (by decide) rfl (List.length_map _) zoC ?_
   refine Oi (.b ((r4.length:Int)==0)) ?_
   refine Ni ?_
   refine Ws ?_
   rcases bft ((r4.length:Int)==0) with hb5 | hb5
   ·replace hM:=ifT hM hb5
    refine Ct hb5 ?_
    refine Sq ?_
    refine Rg 2 ?_
    refine Oa (.sl .nil 0 []) ?_
    refine Oa (.i 3) ?_
    refine Ni ?_
    refine Ws ?_
    refine zaA ?_
    refine zam ?_
    refine zaJ (x:=.tup [.sl .nil 0 [],.i 3]) (f:=fun r=>.tup [.sl .no 2 (r.1.map Reading.cells),.i r.2]) (.inr rfl) ?_ (.tupL (.cons (.sl0 .nil 2 0) (.k .nil))) (Option.some.inj hM) hS
    exact (za2 (zac (x:=.sl .nil 0 []) rfl) (zac (x:=.i 3) rfl))
   ·replace hM:=ifF hM hb5
    refine Cf hb5 ?_
    refine zar ?_
    refine Ws ?_
    refine Sq ?_
    refine Rg 3 ?_
    refine Om (.sl .no 2 (r4.map Reading.cells)) ?_
    refine Oa (.sl .no 2 (r4.map Reading.cells)) ?_
    refine Oa (.i 0) ?_
    refine Ni ?_
    refine zdz [(4,.sl .no 2 (r4.map Reading.cells)),(5,.i 0)] (.k (.k .nil)) ?_
    refine zaA ?_
    refine zaJ (x:=.tup [.sl .no 2 (r4.map Reading.cells),.i 0]) (f:=fun r=>.tup [.sl .no 2 (r.1.map Reading.cells),.i r.2]) (.inr rfl) ?_ (.refl _) (Option.some.inj hM) hS
    exact (za2 (zac (x:=.sl .no 2 (r4.map Reading.cells)) rfl) (zac (x:=.i 0) rfl))
theorem zm8 {n:Nat} {a0:Pulse} {r:(List Int)×Int} (hM:zhd n a0=some r):zav Try.prog 26 [.agg (Pulse.cells a0)] (.tup [.sl .no 1 (r.1.map cI),.i r.2]):=by
 refine zaj mixed Try.func26 rfl (by decide) Try.ntmps26 (by simp) ?pure fun H0 g hf=>?_
 case pure=>exact .tup _ (zad (.sl _ _ (zaz (fun x=>(zad (.v _) zaG)))) (zad (.v _) zaG))
 rw [zah]
 change wpA _ _ _ _ (Fr.of [(0,.agg (Pulse.cells a0))]) H0 g
 have hS:=St.start hf
 refine Sq ?_
 refine Rg 3 ?_
 refine zbX (v:=.agg (Pulse.cells a0)) (cs:=(Pulse.cells a0)) hS (by decide) rfl rfl (by omega) fun H hS=>?_
 refine Oa (.sl .nil 0 []) ?_
 refine Oa (.i 0) ?_
 refine Ni ?_
 refine zaZ (L':=[]) 0 1 hS rfl rfl rfl fun H hS=>?_
 refine Ws ?_
 refine Sq ?_
 refine Rg 7 ?_
 refine Olg (.agg (Pulse.cells a0)) za0 ?_
 obtain ⟨r1,hr1,hM⟩:=zai hM
 refine zau (bs:=[.agg (Pulse.cells a0),.b true]) (by decide) rfl rfl ((zms hr1).le (.k (.k .nil))) ?_
 refine Om (.tup [.sl .no 2 (r1.1.map Reading.cells),.i r1.2]) ?_
 refine Ox (.sl .no 2 (r1.1.map Reading.cells)) ?_
 refine Ox (.i r1.2) ?_
 refine Oa (.sl .no 2 (r1.1.map Reading.cells)) ?_
 refine Oa (.i r1.2) ?_
 refine Ni ?_
 refine Ws ?_
 refine Sq ?_
 refine Sq ?_
 refine Rg 2 ?_
 refine Om (.i r1.2) ?_
 refine Oi (.b (r1.2 != 0)) ?_
 refine Ni ?_
 refine Ws ?_
 rcases bft (r1.2 != 0) with hb2 | hb2
 ·replace hM:=ifT hM hb2
  refine Ct hb2 ?_
  refine Sq ?_
  refine Rg 3 ?_
  refine Om (.i r1.2) ?_
  refine Oa (.sl .nil 0 []) ?_
  refine Oa (.i r1.2) ?_
  refine Ni ?_
  refine Ws ?_
  refine zaA ?_
  refine zam ?_
  refine zaJ (x:=.tup [.sl .nil 0 [],.i r1.2]) (f:=fun r=>.tup [.sl .no 1 (r.1.map cI),.i r.2]) (.inr rfl) ?_ (.tupL (.cons (.sl0 .nil 1 0) (.k .nil))) (Option.some.inj hM) hS
  exact (za2 (zac (x:=.sl .nil 0 []) rfl) (zac (x:=.i r1.2) rfl))
 ·replace hM:=ifF hM hb2
  refine Cf hb2 ?_
  refine zar ?_
  refine Ws ?_
  refine zaC (J:=Unit) (fun j=>[(4,.sl .no 2 (r1.1.map Reading.cells))]) (fun j H' g'=>St (·<g) H0 [] H' g'/\zgn r1=some r) ?_ ?_
  ·rintro _ H g1 ⟨hS,hM⟩
   change wpA _ _ _ _ (Fr.of [(4,.sl .no 2 (r1.1.map Reading.cells))]) _ _
   replace hS:St (·<g) H0 [] H g1:=hS
   replace hM:zgn r1=some r:=hM
   refine Sq ?_
   refine Rg 6 ?_
   refine Om (.sl .no 2 (r1.1.map Reading.cells)) ?_
   obtain ⟨x3,hx3,hM⟩:=zai hM
   refine zaU (xs:=r1.1) (f:=Reading.cells) (z:=0) (u:=x3) (by decide) rfl rfl zkN hx3 ?_
   refine Of ((Reading.cells x3)) zkQ ?_
   refine Olp (.sl .no 1 (x3.List_.map cI)) za6 zbx ?_
   refine Oa (.sl .no 1 (x3.List_.map cI)) ?_
   refine Oa (.i 0) ?_
   refine Ni ?_
   refine Ws ?_
   refine zaA ?_
   refine zaJ (x:=.tup [.sl .no 1 (x3.List_.map cI),.i 0]) (f:=fun r=>.tup [.sl .no 1 (r.1.map cI),.i r.2]) (.inr rfl) ?_ (.refl _) (Option.some.inj hM) hS
   exact (za2 (zac (x:=.sl .no 1 (x3.List_.map cI)) rfl) (zac (x:=.i 0) rfl))
  ·refine Sq ?_
   refine Rg 1 ?_
   refine Oa (.i 0) ?_
   refine Ni ?_
   refine Ws ?_
   refine zaq ?_
   refine zbr (V:=Int) (fun v=>[(4,.sl .no 2 (r1.1.map Reading.cells)),(6,.i v)]) (fun v m2 H' g'=>St (·<g) H0 [] H' g'/\zdg n r1 m2 v=some r) (n:=n) 0 (.k (.k .nil)) ⟨(hS.keep [] rfl).up (by omega),hM⟩ ?_
   rintro v4 m2 H g2 ⟨hS,hM⟩
   obtain _ | m2:=m2
   ·exact nomatch (show none=some _ from hM)
   change wpA _ _ _ _ (Fr.of [(4,.sl .no 2 (r1.1.map Reading.cells)),(6,.i v4)]) _ _
   replace hS:St (·<g) H0 [] H g2:=hS
   replace hM:zfl n r1 (zdg n r1 m2) v4=some r:=hM
   refine Sq ?_
   refine Sq ?_
   refine Rg 4 ?_
   refine Om (.i v4) ?_
   refine Om (.sl .no 2 (r1.1.map Reading.cells)) ?_
   refine zcj (n:=r1.1.length) (by decide) rfl (List.length_map _) zoC ?_
   refine Oi (.b (decide (v4<(r1.1.length:Int)))) ?_
   refine Ni ?_
   refine Ws ?_
   rcases bft (decide (v4<(r1.1.length:Int))) with hb5 | hb5
   ·replace hM:=ifT hM hb5
    refine Ct hb5 ?_
    refine zar ?_
    refine Ws ?_
    refine Sq ?_
    refine zaq ?_
    refine Sq ?_
    have hS0:=hS
    refine zd1 (n:=11) rfl (by kernel_rfl) ?_
    refine Om (.sl .no 2 (r1.1.map Reading.cells)) ?_
    refine Om (.i v4) ?_
    obtain ⟨x6,hx6,hM⟩:=zai hM
    refine zaU (xs:=r1.1) (f:=Reading.cells) (z:=v4) (u:=x6) (by decide) rfl rfl zkN hx6 ?_
    refine Of ((Reading.cells x6)) zkQ ?_
    refine Olp (.sl .no 1 (x6.List_.map cI)) za6 zbx ?_
    refine Om (.sl .no 2 (r1.1.map Reading.cells)) ?_
    obtain ⟨x7,hx7,hM⟩:=zai hM
    refine zaU (xs:=r1.1) (f:=Reading.cells) (z:=0) (u:=x7) (by decide) rfl rfl zkN hx7 ?_
    refine Of ((Reading.cells x7)) zkQ ?_
    refine Olp (.sl .no 1 (x7.List_.map cI)) za6 zbx ?_
    obtain ⟨r8,hr8,hM⟩:=zai hM
    refine zau (bs:=[.sl .no 1 (x6.List_.map cI),.sl .no 1 (x7.List_.map cI)]) (by decide) rfl rfl ((zdR hr8).le (.k (.k .nil))) ?_
    refine zd7 (e:=r8) (by decide) rfl ?_
    refine Ni ?_
    refine Ws ?_
    rcases bft (!r8) with hb9 | hb9
    ·replace hM:=ifT hM hb9
     refine Ct hb9 ?_
     refine Sq ?_
     refine Rg 2 ?_
     refine Oa (.sl .nil 0 []) ?_
     refine Oa (.i 2) ?_
     refine Ni ?_
     refine Ws ?_
     refine zaA ?_
     refine zas ?_
     refine zam ?_
     refine zaL ?_
     refine zas ?_
     refine zaI ?_
     refine zaJ (x:=.tup [.sl .nil 0 [],.i 2]) (f:=fun r=>.tup [.sl .no 1 (r.1.map cI),.i r.2]) (.inr rfl) ?_ (.tupL (.cons (.sl0 .nil 1 0) (.k .nil))) (Option.some.inj hM) hS
     exact (za2 (zac (x:=.sl .nil 0 []) rfl) (zac (x:=.i 2) rfl))
    ·replace hM:=ifF hM hb9
     refine Cf hb9 ?_
     refine zar ?_
     refine zae ?_
     refine Ws ?_
     refine Rg 3 ?_
     refine Om (.i v4) ?_
     refine Oi (.i (w64 (v4+1))) ?_
     refine Oa (.i (w64 (v4+1))) ?_
     refine Ni ?_
     exact zaW (w64 (v4+1)) (Nat.lt_succ_self _) (.k (.k .nil)) ⟨(hS.keep [] rfl).up (by omega),hM⟩
   ·replace hM:=ifF hM hb5
    refine Cf hb5 ?_
    refine zbl ?_
    refine zap ?_
    refine zan ?_
    refine zat ?_
    exact zag () (.k .nil) ⟨(hS.keep [] rfl).up (by omega),hM⟩
theorem zkT {n:Nat} {a0:List WireFault} {a1:WireFault} {r:Bool} (hM:zh7 n a0 a1=some r):zav Try.prog 54 [.sl .no 3 (a0.map WireFault.cells),.agg (WireFault.cells a1)] (.b r):=by
 refine zaj mixed Try.func54 rfl (by decide) Try.ntmps54 (by simp) ?pure fun H0 g hf=>?_
 case pure=>exact .v _
 rw [zah]
 change wpA _ _ _ _ (Fr.of [(0,.sl .no 3 (a0.map WireFault.cells)),(1,.agg (WireFault.cells a1))]) H0 g
 have hS:=St.start hf
 refine Sq ?_
 refine Rg 2 ?_
 refine zbX (v:=.agg (WireFault.cells a1)) (cs:=(WireFault.cells a1)) hS (by decide) rfl rfl (by omega) fun H hS=>?_
 refine Oa (.b false) ?_
 refine Ni ?_
 refine zaZ (L':=[]) 0 3 hS rfl rfl rfl fun H hS=>?_
 refine Ws ?_
 refine Sq ?_
 refine Rg 5 ?_
 refine Om (.sl .no 3 (a0.map WireFault.cells)) ?_
 refine Olg (.agg (WireFault.cells a1)) zcb ?_
 obtain ⟨r1,hr1,hM⟩:=zai hM
 refine zau (bs:=[.sl .no 3 (a0.map WireFault.cells),.agg (WireFault.cells a1)]) (by decide) rfl rfl ((zjc hr1).le (.k (.k .nil))) ?_
 refine Oi (.b (decide (r1≥0))) ?_
 refine Oa (.b (decide (r1≥0))) ?_
 refine Ni ?_
 refine zdz [(4,.b (decide (r1≥0)))] (.k .nil) ?_
 refine zaA ?_
 refine zaJ (x:=.b (decide (r1≥0))) (f:=fun r=>.b r) (.inr rfl) ?_ (.refl _) (Option.some.inj hM) hS
 exact (zao (zac (x:=.b (decide (r1≥0))) rfl))
theorem zje {n:Nat} {a0:List WireFault} {a1:Int} {a2:Int} {r:Int} (hM:zgI n a0 a1 a2=some r):zav Try.prog 55 [.sl .no 3 (a0.map WireFault.cells),.i a1,.i a2] (.i r):=by
 refine zaj mixed Try.func55 rfl (by decide) Try.ntmps55 (by simp) ?pure fun H0 g hf=>?_
 case pure=>exact .v _
 rw [zah]
 change wpA _ _ _ _ (Fr.of [(0,.sl .no 3 (a0.map WireFault.cells)),(1,.i a1),(2,.i a2)]) H0 g
 have hS:=St.start hf
 refine Sq ?_
 refine Rg 1 ?_
 refine Oa (.i 0) ?_
 refine Ni ?_
 refine Ws ?_
 refine zaC (J:=Unit) (fun j=>[(2,.i a2)]) (fun j H' g'=>St (·<g) H0 [] H' g'/\zfL a2=some r) ?_ ?_
 ·rintro _ H g1 ⟨hS,hM⟩
  change wpA _ _ _ _ (Fr.of [(2,.i a2)]) _ _
  replace hS:St (·<g) H0 [] H g1:=hS
  replace hM:zfL a2=some r:=hM
  refine Sq ?_
  refine Rg 2 ?_
  refine Om (.i a2) ?_
  refine Oa (.i a2) ?_
  refine Ni ?_
  refine Ws ?_
  refine zaA ?_
  refine zaJ (x:=.i a2) (f:=fun r=>.i r) (.inr rfl) ?_ (.refl _) (Option.some.inj hM) hS
  exact (zao (zac (x:=.i a2) rfl))
 ·refine Sq ?_
  refine Rg 1 ?_
  refine Oa (.i 0) ?_
  refine Ni ?_
  refine Ws ?_
  refine zaq ?_
  refine zbr (V:=Int) (fun v=>[(0,.sl .no 3 (a0.map WireFault.cells)),(1,.i a1),(2,.i a2),(7,.i v)]) (fun v m2 H' g'=>St (·<g) H0 [] H' g'/\zco a0 a1 a2 m2 v=some r) (n:=n) 0 (.k (.k (.k (.k .nil)))) ⟨(hS.keep [] rfl).up (by omega),hM⟩ ?_
  rintro v1 m2 H g2 ⟨hS,hM⟩
  obtain _ | m2:=m2
  ·exact nomatch (show none=some _ from hM)
  change wpA _ _ _ _ (Fr.of [(0,.sl .no 3 (a0.map WireFault.cells)),(1,.i a1),(2,.i a2),(7,.i v1)]) _ _
  replace hS:St (·<g) H0 [] H g2:=hS
  replace hM:zeR a0 a1 a2 (zco a0 a1 a2 m2) v1=some r:=hM
  refine Sq ?_
  refine Sq ?_
  refine Rg 4 ?_
  refine Om (.i v1) ?_
  refine Om (.sl .no 3 (a0.map WireFault.cells)) ?_
  refine zcj (n:=a0.length) (by decide) rfl (List.length_map _) zfN ?_
  refine Oi (.b (decide (v1<(a0.length:Int)))) ?_
  refine Ni ?_
  refine Ws ?_
  rcases bft (decide (v1<(a0.length:Int))) with hb2 | hb2
  ·replace hM:=ifT hM hb2
   refine Ct hb2 ?_
   refine zar ?_
   refine Ws ?_
   refine zaC (J:=Unit) (fun j=>[(0,.sl .no 3 (a0.map WireFault.cells)),(1,.i a1),(2,.i a2),(7,.i v1)]) (fun j H' g'=>St (·<g) H0 [] H' g'/\zeI (zco a0 a1 a2 m2) v1=some r) ?_ ?_
   ·rintro _ H g3 ⟨hS,hM⟩
    change wpA _ _ _ _ (Fr.of [(0,.sl .no 3 (a0.map WireFault.cells)),(1,.i a1),(2,.i a2),(7,.i v1)]) _ _
    replace hS:St (·<g) H0 [] H g3:=hS
    replace hM:zeI (zco a0 a1 a2 m2) v1=some r:=hM
    refine Rg 3 ?_
    refine Om (.i v1) ?_
    refine Oi (.i (w64 (v1+1))) ?_
    refine Oa (.i (w64 (v1+1))) ?_
    refine Ni ?_
    exact zaW (w64 (v1+1)) (Nat.lt_succ_self _) (.k (.k (.k (.k .nil)))) ⟨(hS.keep [] rfl).up (by omega),hM⟩
   ·refine zaq ?_
    refine Sq ?_
    refine Rg 6 ?_
    refine Om (.sl .no 3 (a0.map WireFault.cells)) ?_
    refine Om (.i v1) ?_
    obtain ⟨x3,hx3,hM⟩:=zai hM
    refine zaU (xs:=a0) (f:=WireFault.cells) (z:=v1) (u:=x3) (by decide) rfl rfl zca hx3 ?_
    refine Olg (.agg (WireFault.cells x3)) zcb ?_
    refine zcp hS (by decide) zdQ (by omega) fun H hS=>?_
    refine za1 (v:=.agg (WireFault.cells x3)) (ns:=(WireFault.cells x3)) (L':=[(g2+4+4,.cells (WireFault.cells x3))]) 0 hS rfl rfl .no rfl rfl zj8 nlb rfl fun H hS=>?_
    refine Ni ?_
    refine zaZ (L':=[]) 0 8 hS rfl rfl rfl fun H hS=>?_
    refine Ws ?_
    refine Sq ?_
    refine Rg 4 ?_
    refine Of ((WireFault.cells x3)) zem ?_
    refine Olp (.i x3.Kind) zab zaf ?_
    refine Om (.i a1) ?_
    refine Oi (.b (x3.Kind==a1)) ?_
    refine Ni ?_
    refine Ws ?_
    rcases bft (x3.Kind==a1) with hb4 | hb4
    ·replace hM:=ifT hM hb4
     refine Ct hb4 ?_
     refine Sq ?_
     refine Sq ?_
     refine Rg 4 ?_
     refine Of ((WireFault.cells x3)) zcF ?_
     refine Olp (.i x3.A) zab zaf ?_
     refine Om (.i a2) ?_
     refine Oi (.b (x3.A==a2)) ?_
     refine Ni ?_
     refine Ws ?_
     rcases bft (x3.A==a2) with hb5 | hb5
     ·replace hM:=ifT hM hb5
      refine Ct hb5 ?_
      refine Sq ?_
      refine Rg 3 ?_
      refine Of ((WireFault.cells x3)) zdh ?_
      refine Olp (.i x3.B) zab zaf ?_
      refine Oa (.i x3.B) ?_
      refine Ni ?_
      refine Ws ?_
      refine zaA ?_
      refine zam ?_
      refine zas ?_
      refine zaI ?_
      refine zaL ?_
      refine zas ?_
      refine zaI ?_
      refine zaJ (x:=.i x3.B) (f:=fun r=>.i r) (.inr rfl) ?_ (.refl _) (Option.some.inj hM) hS
      exact (zao (zac (x:=.i x3.B) rfl))
     ·replace hM:=ifF hM hb5
      refine Cf hb5 ?_
      refine zar ?_
      refine Ws ?_
      refine Sq ?_
      refine Rg 4 ?_
      refine Of ((WireFault.cells x3)) zdh ?_
      refine Olp (.i x3.B) zab zaf ?_
      refine Om (.i a2) ?_
      refine Oi (.b (x3.B==a2)) ?_
      refine Ni ?_
      refine Ws ?_
      rcases bft (x3.B==a2) with hb6 | hb6
      ·replace hM:=ifT hM hb6
       refine Ct hb6 ?_
       refine Sq ?_
       refine Rg 3 ?_
       refine Of ((WireFault.cells x3)) zcF ?_
       refine Olp (.i x3.A) zab zaf ?_
       refine Oa (.i x3.A) ?_
       refine Ni ?_
       refine Ws ?_
       refine zaA ?_
       refine zas ?_
       refine zaI ?_
       refine zaL ?_
       refine zas ?_
       refine zaI ?_
       refine zaJ (x:=.i x3.A) (f:=fun r=>.i r) (.inr rfl) ?_ (.refl _) (Option.some.inj hM) hS
       exact (zao (zac (x:=.i x3.A) rfl))
      ·replace hM:=ifF hM hb6
       refine Cf hb6 ?_
       refine zar ?_
       refine zae ?_
       exact zag () (.k (.k (.k (.k .nil)))) ⟨(hS.keep [] rfl).up (by omega),hM⟩
    ·replace hM:=ifF hM hb4
     refine Cf hb4 ?_
     refine zar ?_
     refine zae ?_
     exact zag () (.k (.k (.k (.k .nil)))) ⟨(hS.keep [] rfl).up (by omega),hM⟩
  ·replace hM:=ifF hM hb2
   refine Cf hb2 ?_
   refine zbl ?_
   refine zap ?_
   refine zan ?_
   refine zat ?_
   exact zag () (.k .nil) ⟨(hS.keep [] rfl).up (by omega),hM⟩
theorem zkU {n:Nat} {a0:Wire} {a1:List WireFault} {a2:Int} {a3:Int} {r:Int} (hM:zgo n a0 a1 a2 a3=some r):zav Try.prog 27 [.agg (Wire.cells a0),.sl .no 3 (a1.map WireFault.cells),.i a2,.i a3] (.i r):=by
 refine zaj mixed Try.func27 rfl (by decide) Try.ntmps27 (by simp) ?pure fun H0 g hf=>?_
 case pure=>exact .v _
 rw [zah]
 change wpA _ _ _ _ (Fr.of [(0,.agg (Wire.cells a0)),(1,.sl .no 3 (a1.map WireFault.cells)),(2,.i a2),(3,.i a3)]) H0 g
 have hS:=St.start hf
 refine Sq ?_
 refine Rg 2 ?_
 refine zbX (v:=.agg (Wire.cells a0)) (cs:=(Wire.cells a0)) hS (by decide) rfl rfl (by omega) fun H hS=>?_
 refine Oa (.i 0) ?_
 refine Ni ?_
 refine zaZ (L':=[]) 0 4 hS rfl rfl rfl fun H hS=>?_
 refine Ws ?_
 refine Sq ?_
 refine zaC (J:=Bool) (fun j=>[(1,.sl .no 3 (a1.map WireFault.cells)),(2,.i a2),(3,.i a3),(4,.ep (Wire.cells a0)),(18,.b j)]) (fun j H' g'=>St (·<g) H0 [] H' g'/\zdP n a0 a1 a2 a3 j=some r) ?_ ?_
 ·rintro v1 H g1 ⟨hS,hM⟩
  change wpA _ _ _ _ (Fr.of [(1,.sl .no 3 (a1.map WireFault.cells)),(2,.i a2),(3,.i a3),(4,.ep (Wire.cells a0)),(18,.b v1)]) _ _
  replace hS:St (·<g) H0 [] H g1:=hS
  replace hM:zdP n a0 a1 a2 a3 v1=some r:=hM
  rcases bft v1 with hb2 | hb2
  ·replace hM:=ifT hM hb2
   refine Ct hb2 ?_
   refine Sq ?_
   refine Rg 1 ?_
   refine Oa (.i (-1)) ?_
   refine Ni ?_
   refine Ws ?_
   refine zaA ?_
   refine zam ?_
   refine zaJ (x:=.i (-1)) (f:=fun r=>.i r) (.inr rfl) ?_ (.refl _) (Option.some.inj hM) hS
   exact (zao (zac (x:=.i (-1)) rfl))
  ·replace hM:=ifF hM hb2
   refine Cf hb2 ?_
   refine zar ?_
   refine Ws ?_
   refine Sq ?_
   have hS0:=hS
   refine zd1 (n:=11) rfl (by kernel_rfl) ?_
   refine Om (.sl .no 3 (a1.map WireFault.cells)) ?_
   refine Om (.i a2) ?_
   obtain ⟨r3,hr3,hM⟩:=zai hM
   refine zau (bs:=[.sl .no 3 (a1.map WireFault.cells),.i 3,.i a2]) (by decide) rfl rfl ((zje hr3).le (.k (.k (.k .nil)))) ?_
   refine Of ((Wire.cells a0)) zfp ?_
   refine Olp (.i a0.Numbers) zab zaf ?_
   refine Oi (.i (w64 (r3*a0.Numbers))) ?_
   refine Om (.sl .no 3 (a1.map WireFault.cells)) ?_
   refine Om (.i a3) ?_
   obtain ⟨r4,hr4,hM⟩:=zai hM
   refine zau (bs:=[.sl .no 3 (a1.map WireFault.cells),.i 4,.i a3]) (by decide) rfl rfl ((zje hr4).le (.k (.k (.k .nil)))) ?_
   refine Oi (.i (w64 ((w64 (r3*a0.Numbers))+r4))) ?_
   refine Oa (.i (w64 ((w64 (r3*a0.Numbers))+r4))) ?_
   refine Ni ?_
   refine Ws ?_
   refine zaA ?_
   refine zaJ (x:=.i (w64 ((w64 (r3*a0.Numbers))+r4))) (f:=fun r=>.i r) (.inr rfl) ?_ (.refl _) (Option.some.inj hM) hS
   exact (zao (zac (x:=.i (w64 ((w64 (r3*a0.Numbers))+r4))) rfl))
 ·refine Rg 10 ?_
  refine Om (.sl .no 3 (a1.map WireFault.cells)) ?_
  refine Om (.i a2) ?_
  refine zbD (cs:=[.i 1,.i a2,.i 0]) (by decide) zdQ zh8 rfl ?_
  obtain ⟨r5,hr5,hM⟩:=zai hM
  refine zau (bs:=[.sl .no 3 (a1.map WireFault.cells),.agg [.i 1,.i a2,.i 0]]) (by decide) rfl rfl ((zkT hr5).le (.k (.k .nil))) ?_
  refine Om (.b r5) ?_
  rcases bft r5 with hb6 | hb6
  ·replace hM:=ifT hM hb6
   refine On (want:=false) hb6 ?_
   refine On (want:=false) hb6 ?_
   refine On (want:=false) hb6 ?_
   refine On (want:=false) hb6 ?_
   refine Pt (.b true) hb6 ?_
   refine Ni ?_
   exact zag true (.k (.k (.k (.k (.k .nil))))) ⟨(hS.keep [] rfl).up (by omega),hM⟩
  ·replace hM:=ifF hM hb6
   refine Oy (want:=false) hb6 ?_
   refine Om (.sl .no 3 (a1.map WireFault.cells)) ?_
   refine Oy (want:=false) hb6 ?_
   refine Om (.i a3) ?_
   refine Oy (want:=false) hb6 ?_
   refine zbD (cs:=[.i 2,.i a3,.i 0]) (by decide) zdQ zh8 rfl ?_
   refine Oy (want:=false) hb6 ?_
   obtain ⟨r7,hr7,hM⟩:=zai hM
   refine zau (bs:=[.sl .no 3 (a1.map WireFault.cells),.agg [.i 2,.i a3,.i 0]]) (by decide) rfl rfl ((zkT hr7).le (.k (.k .nil))) ?_
   refine Pf (.b r7) hb6 ?_
   refine Ni ?_
   exact zag r7 (.k (.k (.k (.k (.k .nil))))) ⟨(hS.keep [] rfl).up (by omega),hM⟩
theorem zmt {n:Nat} {a0:Pulse} {a1:List WireFault} {r:(List Int)×Int} (hM:zhy n a0 a1=some r):zav Try.prog 8 [.agg (Pulse.cells a0),.sl .no 3 (a1.map WireFault.cells)] (.tup [.sl .no 1 (r.1.map cI),.i r.2]):=by
 refine zaj mixed Try.func8 rfl (by decide) Try.ntmps8 (by simp) ?pure fun H0 g hf=>?_
 case pure=>exact .tup _ (zad (.sl _ _ (zaz (fun x=>(zad (.v _) zaG)))) (zad (.v _) zaG))
 rw [zah]
 change wpA _ _ _ _ (Fr.of [(0,.agg (Pulse.cells a0)),(1,.sl .no 3 (a1.map WireFault.cells))]) H0 g
 have hS:=St.start hf
 refine Sq ?_
 refine Rg 3 ?_
 refine zbX (v:=.agg (Pulse.cells a0)) (cs:=(Pulse.cells a0)) hS (by decide) rfl rfl (by omega) fun H hS=>?_
 refine Oa (.sl .nil 0 []) ?_
 refine Oa (.i 0) ?_
 refine Ni ?_
 refine zaZ (L':=[]) 0 2 hS rfl rfl rfl fun H hS=>?_
 refine Ws ?_
 refine Sq ?_
 refine Sq ?_
 refine Rg 3 ?_
 refine Olg (.agg (Pulse.cells a0)) za0 ?_
 obtain ⟨r1,hr1,hM⟩:=zai hM
 refine zau (bs:=[.agg (Pulse.cells a0)]) (by decide) rfl rfl ((zhz hr1).le (.k .nil)) ?_
 refine Oa (.i r1) ?_
 refine Ni ?_
 refine Ws ?_
 refine Sq ?_
 refine Rg 2 ?_
 refine Om (.i r1) ?_
 refine Oi (.b (r1 != 0)) ?_
 refine Ni ?_
 refine Ws ?_
 rcases bft (r1 != 0) with hb2 | hb2
 ·replace hM:=ifT hM hb2
  refine Ct hb2 ?_
  refine Sq ?_
  refine Rg 3 ?_
  refine Om (.i r1) ?_
  refine Oa (.sl .nil 0 []) ?_
  refine Oa (.i r1) ?_
  refine Ni ?_
  refine Ws ?_
  refine zaA ?_
  refine zam ?_
  refine zaJ (x:=.tup [.sl .nil 0 [],.i r1]) (f:=fun r=>.tup [.sl .no 1 (r.1.map cI),.i r.2]) (.inr rfl) ?_ (.tupL (.cons (.sl0 .nil 1 0) (.k .nil))) (Option.some.inj hM) hS
  exact (za2 (zac (x:=.sl .nil 0 []) rfl) (zac (x:=.i r1) rfl))
 ·replace hM:=ifF hM hb2
  refine Cf hb2 ?_
  refine zar ?_
  refine Ws ?_
  refine Sq ?_
  refine Sq ?_
  refine Rg 5 ?_
  refine Olg (.agg (Pulse.cells a0)) za0 ?_
  obtain ⟨r3,hr3,hM⟩:=zai hM
  refine zau (bs:=[.agg (Pulse.cells a0)]) (by decide) rfl rfl ((zkS hr3).le (.k .nil)) ?_
  refine Om (.sl .no 3 (a1.map WireFault.cells)) ?_
  obtain ⟨r4,hr4,hM⟩:=zai hM
  refine zau (bs:=[.agg (Wire.cells r3),.sl .no 3 (a1.map WireFault.cells)]) (by decide) rfl rfl ((zmq hr4).le (.k (.k .nil))) ?_
  refine zd7 (e:=r4) (by decide) rfl ?_
  refine Ni ?_
  refine Ws ?_
  rcases bft (!r4) with hb5 | hb5
  ·replace hM:=ifT hM hb5
   refine Ct hb5 ?_
   refine Sq ?_
   refine Rg 2 ?_
   refine Oa (.sl .nil 0 []) ?_
   refine Oa (.i 1) ?_
   refine Ni ?_
   refine Ws ?_
   refine zaA ?_
   refine zam ?_
   refine zaJ (x:=.tup [.sl .nil 0 [],.i 1]) (f:=fun r=>.tup [.sl .no 1 (r.1.map cI),.i r.2]) (.inr rfl) ?_ (.tupL (.cons (.sl0 .nil 1 0) (.k .nil))) (Option.some.inj hM) hS
   exact (za2 (zac (x:=.sl .nil 0 []) rfl) (zac (x:=.i 1) rfl))
  ·replace hM:=ifF hM hb5
   refine Cf hb5 ?_
   refine zar ?_
   refine Ws ?_
   refine Sq ?_
   refine Rg 7 ?_
   refine Olg (.agg (Pulse.cells a0)) za0 ?_
   obtain ⟨r6,hr6,hM⟩:=zai hM
   refine zau (bs:=[.agg (Pulse.cells a0)]) (by decide) rfl rfl ((zm8 hr6).le (.k .nil)) ?_
   refine Om (.tup [.sl .no 1 (r6.1.map cI),.i r6.2]) ?_
   refine Ox (.sl .no 1 (r6.1.map cI)) ?_
   refine Ox (.i r6.2) ?_
   refine Oa (.sl .no 1 (r6.1.map cI)) ?_
   refine Oa (.i r6.2) ?_
   refine Ni ?_
   refine Ws ?_
   refine Sq ?_
   refine Sq ?_
   refine Rg 2 ?_
   refine Om (.i r6.2) ?_
   refine Oi (.b (r6.2 != 0)) ?_
   refine Ni ?_
   refine Ws ?_
   rcases bft (r6.2 != 0) with hb7 | hb7
   ·replace hM:=ifT hM hb7
    refine Ct hb7 ?_
    refine Sq ?_
    refine Rg 3 ?_
    refine Om (.i r6.2) ?_
    refine Oa (.sl .nil 0 []) ?_
    refine Oa (.i r6.2) ?_
    refine Ni ?_
    refine Ws ?_
    refine zaA ?_
    refine zam ?_
    refine zaJ (x:=.tup [.sl .nil 0 [],.i r6.2]) (f:=fun r=>.tup [.sl .no 1 (r.1.map cI),.i r.2]) (.inr rfl) ?_ (.tupL (.cons (.sl0 .nil 1 0) (.k .nil))) (Option.some.inj hM) hS
    exact (za2 (zac (x:=.sl .nil 0 []) rfl) (zac (x:=.i r6.2) rfl))
   ·replace hM:=ifF hM hb7
    refine Cf hb7 ?_
    refine zar ?_
    refine Ws ?_
    refine Sq ?_
    refine Rg 1 ?_
    refine Oa (.sl .nil 0 []) ?_
    refine Ni ?_
    refine zmT [(1,.sl .no 3 (a1.map WireFault.cells)),(2,.ep (Pulse.cells a0)),(7,.sl .no 1 (r6.1.map cI)),(9,.sl (.id (g+3+3+2+5+7+2+1)) 1 (([]:List Int).map cI))] 9 1 3 hS (by omega) (by decide) rfl (.k (.k (.k (.k .nil)))) fun H hS=>?_
    refine zaC (J:=(List Int)) (fun j=>[(9,.sl (.id (g+3+3+2+5+7+2+1)) 1 (j.map cI))]) (fun j H' g'=>St (·<g) H0 [(g+3+3+2+5+7+2+1,.row 3 j.length)] H' g'/\zfM j=some r) ?_ ?_
    ·rintro v8 H g1 ⟨hS,hM⟩
     change wpA _ _ _ _ (Fr.of [(9,.sl (.id (g+3+3+2+5+7+2+1)) 1 (v8.map cI))]) _ _
     replace hS:St (·<g) H0 [(g+3+3+2+5+7+2+1,.row 3 v8.length)] H g1:=hS
     replace hM:zfM v8=some r:=hM
     refine Sq ?_
     refine Rg 3 ?_
     refine Om (.sl (.id (g+3+3+2+5+7+2+1)) 1 (v8.map cI)) ?_
     refine Oa (.sl (.id (g+3+3+2+5+7+2+1)) 1 (v8.map cI)) ?_
     refine Oa (.i 0) ?_
     refine Ni ?_
     refine Ws ?_
     refine zaA ?_
     refine zaJ (x:=.tup [.sl (.id (g+3+3+2+5+7+2+1)) 1 (v8.map cI),.i 0]) (f:=fun r=>.tup [.sl .no 1 (r.1.map cI),.i r.2]) (.inr rfl) ?_ (.tupL (.cons (.sl _ _ _) (.k .nil))) (Option.some.inj hM) hS
     exact (za2 (zac (x:=.sl (.id (g+3+3+2+5+7+2+1)) 1 (v8.map cI)) rfl) (zac (x:=.i 0) rfl))
    ·refine Sq ?_
     refine Rg 1 ?_
     refine Oa (.i 0) ?_
     refine Ni ?_
     refine Ws ?_
     refine zaq ?_
     refine zbr (V:=(List Int)×Int) (fun v=>[(1,.sl .no 3 (a1.map WireFault.cells)),(2,.ep (Pulse.cells a0)),(7,.sl .no 1 (r6.1.map cI)),(9,.sl (.id (g+3+3+2+5+7+2+1)) 1 (v.1.map cI)),(10,.i v.2)]) (fun v m2 H' g'=>St (·<g) H0 [(g+3+3+2+5+7+2+1,.row 3 v.1.length)] H' g'/\zdl n a0 a1 r6 m2 v.1 v.2=some r) (n:=n) (([]:List Int),0) (.k (.k (.k (.k (.k .nil))))) ⟨(hS.keep [true] rfl).up (by omega),hM⟩ ?_
     rintro ⟨v9,v10⟩ m2 H g2 ⟨hS,hM⟩
     obtain _ | m2:=m2
     ·exact nomatch (show none=some _ from hM)
     change wpA _ _ _ _ (Fr.of [(1,.sl .no 3 (a1.map WireFault.cells)),(2,.ep (Pulse.cells a0)),(7,.sl .no 1 (r6.1.map cI)),(9,.sl (.id (g+3+3+2+5+7+2+1)) 1 (v9.map cI)),(10,.i v10)]) _ _
     replace hS:St (·<g) H0 [(g+3+3+2+5+7+2+1,.row 3 v9.length)] H g2:=hS
     replace hM:zeS n a0 a1 r6 (zdl n a0 a1 r6 m2) v9 v10=some r:=hM
     refine Sq ?_
     refine Sq ?_
     refine Rg 4 ?_
     refine Om (.i v10) ?_
     refine Om (.sl .no 1 (r6.1.map cI)) ?_
     refine zcj (n:=r6.1.length) (by decide) rfl (List.length_map _) za9 ?_
     refine Oi (.b (decide (v10<(r6.1.length:Int)))) ?_
     refine Ni ?_
     refine Ws ?_
     rcases bft (decide (v10<(r6.1.length:Int))) with hb11 | hb11
     ·replace hM:=ifT hM hb11
      refine Ct hb11 ?_
      refine zar ?_
      refine Ws ?_
      refine Sq ?_
      refine zaq ?_
      have hS0:=hS
      refine zd1 (n:=22) rfl (by kernel_rfl) ?_
      refine Om (.sl (.id (g+3+3+2+5+7+2+1)) 1 (v9.map cI)) ?_
      refine Olg (.agg (Pulse.cells a0)) za0 ?_
      obtain ⟨r12,hr12,hM⟩:=zai hM
      refine zau (bs:=[.agg (Pulse.cells a0)]) (by decide) rfl rfl ((zkS hr12).le (.k .nil)) ?_
      refine Om (.sl .no 3 (a1.map WireFault.cells)) ?_
      refine Om (.sl .no 1 (r6.1.map cI)) ?_
      refine Om (.i v10) ?_
      obtain ⟨x13,hx13,hM⟩:=zai hM
      refine zaU (xs:=r6.1) (f:=cI) (z:=v10) (u:=x13) (by decide) rfl rfl zaR hx13 ?_
      refine Olp (.i x13) zab zaf ?_
      refine Of ((Pulse.cells a0)) zcu ?_
      refine Olp (.i a0.Numbers) zab zaf ?_
      obtain ⟨q14,hq14,hM⟩:=zai hM
      refine znM (by decide) rfl rfl (znN hq14) ?_
      refine Om (.sl .no 1 (r6.1.map cI)) ?_
      refine Om (.i v10) ?_
      obtain ⟨x15,hx15,hM⟩:=zai hM
      refine zaU (xs:=r6.1) (f:=cI) (z:=v10) (u:=x15) (by decide) rfl rfl zaR hx15 ?_
      refine Olp (.i x15) zab zaf ?_
      refine Of ((Pulse.cells a0)) zcu ?_
      refine Olp (.i a0.Numbers) zab zaf ?_
      obtain ⟨q16,hq16,hM⟩:=zai hM
      refine znM (by decide) rfl rfl (znO hq16) ?_
      obtain ⟨r17,hr17,hM⟩:=zai hM
      refine zau (bs:=[.agg (Wire.cells r12),.sl .no 3 (a1.map WireFault.cells),.i q14,.i q16]) (by decide) rfl rfl ((zkU hr17).le (.k (.k (.k (.k .nil))))) ?_
      refine zaK (es:=[[.i r17]]) hS (by decide) zaR zcT rfl zcU rfl (by decide) (by omega) fun H hS=>?_
      obtain ⟨l18,hl18,hM⟩:=zai hM
      refine zcv (xs:=v9) (ys:=([r17]:List Int)) (zs:=l18) (f:=cI) (L':=[(g2+4+19,.row 3 1),(g+3+3+2+5+7+2+1,.row 3 l18.length)]) 1 hS (by decide) rfl rfl rfl rfl (.st hS0 0 rfl (by omega)) zaR zcT zcU hl18 rfl fun H hS=>?_
      refine Oa (.sl (.id (g+3+3+2+5+7+2+1)) 1 (l18.map cI)) ?_
      refine Ni ?_
      refine zae ?_
      replace hS:=hS.keep (L':=[(g+3+3+2+5+7+2+1,.row 3 l18.length)]) [false,true] rfl
      refine Ws ?_
      refine Rg 3 ?_
      refine Om (.i v10) ?_
      refine Oi (.i (w64 (v10+1))) ?_
      refine Oa (.i (w64 (v10+1))) ?_
      refine Ni ?_
      exact zaW (l18,w64 (v10+1)) (Nat.lt_succ_self _) (.k (.k (.k (.k (.k .nil))))) ⟨(hS.keep [true] rfl).up (by omega),hM⟩
     ·replace hM:=ifF hM hb11
      refine Cf hb11 ?_
      refine zbl ?_
      refine zap ?_
      refine zan ?_
      refine zat ?_
      exact zag v9 (.k .nil) ⟨(hS.keep [true] rfl).up (by omega),hM⟩
end Go.Proofs.Ytebfppngmmdfkaa
