/-
  The code returns what the functions say (printed by gen.py).
  Conditions: none.
-/
import Derived.Test.YtebfppngmmdfkaaWkPulsesPlays2
import Derived.Test.YtebfppngmmdfkaaAmPg
set_option linter.all false
namespace Go.Proofs.Ytebfppngmmdfkaa
open Go Go.AM Go.Law
set_option linter.unusedVariables false
set_option maxRecDepth 4000
set_option maxHeartbeats 4000000
theorem zjR {n:Nat} {a0:Wire} {r:(Option Wiring_)} (hM:zil n a0=some r):zav Try.prog 44 [.agg (Wire.cells a0)] (pA Wiring_.cells r):=by
 refine zaj mixed Try.func44 rfl (by decide) Try.ntmps44 (by simp) ?pure fun H0 g hf=>?_
 case pure=>exact zqq (fun x=>(zad (.v _) (zad (.v _) (zad (.sl _ _ (zaz (fun x=>(zad (.v _) (zad (.v _) (zad (.v _) zaG)))))) (zad (.v _) (zad (.sl _ _ (zaz (fun x=>(zad (.v _) (zad (.v _) (zad (.v _) zaG)))))) zaG)))))) _
 rw [zah]
 change wpA _ _ _ _ (Fr.of [(0,.agg (Wire.cells a0))]) H0 g
 have hS:=St.start hf
 refine Sq ?_
 refine Rg 2 ?_
 refine zbX (v:=.agg (Wire.cells a0)) (cs:=(Wire.cells a0)) hS (by decide) rfl rfl (by omega) fun H hS=>?_
 refine Oa (pA Wiring_.cells (none:Option Wiring_)) ?_
 refine Ni ?_
 refine zaZ (L':=[]) 0 1 hS rfl rfl rfl fun H hS=>?_
 refine Ws ?_
 refine Sq ?_
 refine Rg 4 ?_
 refine Olg (.agg (Wire.cells a0)) zfO ?_
 refine zbD (cs:=[.i a0.Letters,.i a0.Numbers,.sl .no 3 (a0.Presses.map WirePress.cells),.i a0.Faults,.sl .nil 0 []]) (by decide) zpl zr2 rfl ?_
 refine zbX (v:=.agg [.i a0.Letters,.i a0.Numbers,.sl .no 3 (a0.Presses.map WirePress.cells),.i a0.Faults,.sl .nil 0 []]) (cs:=[.i a0.Letters,.i a0.Numbers,.sl .no 3 (a0.Presses.map WirePress.cells),.i a0.Faults,.sl .nil 0 []]) hS (by decide) rfl rfl (by omega) fun H hS=>?_
 refine Oa (.ptr (g+2+2) 0) ?_
 refine Ni ?_
 refine zkD (cs':=[.i a0.Letters,.i a0.Numbers,.sl .no 3 (a0.Presses.map WirePress.cells),.i a0.Faults,.sl (.id (g+2+4)) 3 (([]:List WireFault).map WireFault.cells)]) (L':=[(g+2+2,.cells [.i a0.Letters,.i a0.Numbers,.sl .no 3 (a0.Presses.map WirePress.cells),.i a0.Faults,.sl (.id (g+2+4)) 3 (([]:List WireFault).map WireFault.cells)])]) 0 4 3 33 hS (by omega) (by decide) rfl rfl rfl rfl fun H hS=>?_
 refine Ws ?_
 refine zaC (J:=(List WireFault)) (fun j=>[(3,.ptr (g+2+2) 0)]) (fun j H' g'=>St (·<g) H0 [(g+2+4,.row 33 j.length),(g+2+2,.cells [.i a0.Letters,.i a0.Numbers,.sl .no 3 (a0.Presses.map WirePress.cells),.i a0.Faults,.sl (.id (g+2+4)) 3 (j.map WireFault.cells)])] H' g'/\zhq a0 j=some r) ?_ ?_
 ·rintro v1 H g1 ⟨hS,hM⟩
  change wpA _ _ _ _ (Fr.of [(3,.ptr (g+2+2) 0)]) _ _
  replace hS:St (·<g) H0 [(g+2+4,.row 33 v1.length),(g+2+2,.cells [.i a0.Letters,.i a0.Numbers,.sl .no 3 (a0.Presses.map WirePress.cells),.i a0.Faults,.sl (.id (g+2+4)) 3 (v1.map WireFault.cells)])] H g1:=hS
  replace hM:zhq a0 v1=some r:=hM
  refine Sq ?_
  refine Rg 2 ?_
  refine Om (.ptr (g+2+2) 0) ?_
  refine Oa (.ptr (g+2+2) 0) ?_
  refine Ni ?_
  refine zs4 (cs':=[.i a0.Letters,.i a0.Numbers,.sl .no 3 (a0.Presses.map WirePress.cells),.i a0.Faults,.sl .no 3 (v1.map WireFault.cells)]) (L':=[(g+2+4,.row 33 v1.length),(g+2+2,.cells [.i a0.Letters,.i a0.Numbers,.sl .no 3 (a0.Presses.map WirePress.cells),.i a0.Faults,.sl .no 3 (v1.map WireFault.cells)])]) 1 hS rfl (.k (.k (.k (.k (.cons (.sl _ _ _) .nil))))) rfl fun H hS=>?_
  refine zaZ (L':=[(g+2+4,.row 33 v1.length)]) 1 2 hS rfl rfl rfl fun H hS=>?_
  replace hS:=hS.keep (L':=[]) [false] rfl
  refine Ws ?_
  refine zaA ?_
  refine zaJ (x:=.ep [.i a0.Letters,.i a0.Numbers,.sl .no 3 (a0.Presses.map WirePress.cells),.i a0.Faults,.sl .no 3 (v1.map WireFault.cells)]) (f:=fun r=>pA Wiring_.cells r) (.inr rfl) ?_ (.refl _) (Option.some.inj hM) hS
  exact (zao (zac (x:=.ep [.i a0.Letters,.i a0.Numbers,.sl .no 3 (a0.Presses.map WirePress.cells),.i a0.Faults,.sl .no 3 (v1.map WireFault.cells)]) rfl))
 ·refine Sq ?_
  refine Rg 2 ?_
  refine zbD (cs:=[.i 1,.i 2,.i 3,.i 4]) (by decide) zpm zr3 rfl ?_
  refine Om (.i 0) ?_
  refine Ni ?_
  refine Ws ?_
  refine zaq ?_
  refine zbr (V:=Int×(List WireFault)) (fun v=>[(1,.ep (Wire.cells a0)),(3,.ptr (g+2+2) 0),(12,.agg [.i 1,.i 2,.i 3,.i 4]),(13,.i v.1)]) (fun v m3 H' g'=>St (·<g) H0 [(g+2+4,.row 33 v.2.length),(g+2+2,.cells [.i a0.Letters,.i a0.Numbers,.sl .no 3 (a0.Presses.map WirePress.cells),.i a0.Faults,.sl (.id (g+2+4)) 3 (v.2.map WireFault.cells)])] H' g'/\zaQ n a0 m3 v.1 v.2=some r) (n:=n) (0,([]:List WireFault)) (.k (.k (.k (.k .nil)))) ⟨(hS.keep [true,true] rfl).up (by omega),hM⟩ ?_
  rintro ⟨v3,v4⟩ m3 H g3 ⟨hS,hM⟩
  obtain _ | m3:=m3
  ·exact nomatch (show none=some _ from hM)
  change wpA _ _ _ _ (Fr.of [(1,.ep (Wire.cells a0)),(3,.ptr (g+2+2) 0),(12,.agg [.i 1,.i 2,.i 3,.i 4]),(13,.i v3)]) _ _
  replace hS:St (·<g) H0 [(g+2+4,.row 33 v4.length),(g+2+2,.cells [.i a0.Letters,.i a0.Numbers,.sl .no 3 (a0.Presses.map WirePress.cells),.i a0.Faults,.sl (.id (g+2+4)) 3 (v4.map WireFault.cells)])] H g3:=hS
  replace hM:zh4 n a0 (zaQ n a0 m3) v3 v4=some r:=hM
  refine Sq ?_
  refine Rg 1 ?_
  refine Oi (.b (decide (v3<4))) ?_
  refine Ni ?_
  refine Ws ?_
  refine Sq ?_
  rcases bft (decide (v3<4)) with hb5 | hb5
  ·replace hM:=ifT hM hb5
   refine Ct hb5 ?_
   refine zar ?_
   refine Ws ?_
   refine zaC (J:=(List WireFault)) (fun j=>[(1,.ep (Wire.cells a0)),(3,.ptr (g+2+2) 0),(12,.agg [.i 1,.i 2,.i 3,.i 4]),(13,.i v3)]) (fun j H' g'=>St (·<g) H0 [(g+2+4,.row 33 j.length),(g+2+2,.cells [.i a0.Letters,.i a0.Numbers,.sl .no 3 (a0.Presses.map WirePress.cells),.i a0.Faults,.sl (.id (g+2+4)) 3 (j.map WireFault.cells)])] H' g'/\zhr (zaQ n a0 m3) v3 j=some r) ?_ ?_
   ·rintro v6 H g4 ⟨hS,hM⟩
    change wpA _ _ _ _ (Fr.of [(1,.ep (Wire.cells a0)),(3,.ptr (g+2+2) 0),(12,.agg [.i 1,.i 2,.i 3,.i 4]),(13,.i v3)]) _ _
    replace hS:St (·<g) H0 [(g+2+4,.row 33 v6.length),(g+2+2,.cells [.i a0.Letters,.i a0.Numbers,.sl .no 3 (a0.Presses.map WirePress.cells),.i a0.Faults,.sl (.id (g+2+4)) 3 (v6.map WireFault.cells)])] H g4:=hS
    replace hM:zhr (zaQ n a0 m3) v3 v6=some r:=hM
    refine Rg 2 ?_
    refine Oi (.i (w64 (v3+1))) ?_
    refine Om (.i (w64 (v3+1))) ?_
    refine Ni ?_
    exact zaW (w64 (v3+1),v6) (Nat.lt_succ_self _) (.k (.k (.k (.k .nil)))) ⟨(hS.keep [true,true] rfl).up (by omega),hM⟩
   ·refine zaq ?_
    refine Sq ?_
    refine Rg 2 ?_
    obtain ⟨x7,hx7,hM⟩:=zai hM
    refine zop (v:=.i x7) (cs:=[.i 1,.i 2,.i 3,.i 4]) (z:=v3) (by decide) rfl rfl zqL (ziu hx7).1 (znU hx7) (zrP (xs:=([1,2,3,4]:List Int)) zab zaf rfl hx7) ?_
    refine Oa (.i x7) ?_
    refine Ni ?_
    refine Ws ?_
    refine Sq ?_
    refine Rg 3 ?_
    refine Of ((Wire.cells a0)) zgM ?_
    refine Olp (.i a0.Letters) zab zaf ?_
    refine Oa (.i a0.Letters) ?_
    refine Ni ?_
    refine Ws ?_
    refine zaC (J:=Int) (fun j=>[(1,.ep (Wire.cells a0)),(3,.ptr (g+2+2) 0),(5,.i x7),(6,.i j),(12,.agg [.i 1,.i 2,.i 3,.i 4]),(13,.i v3)]) (fun j H' g'=>St (·<g) H0 [(g+2+4,.row 33 v4.length),(g+2+2,.cells [.i a0.Letters,.i a0.Numbers,.sl .no 3 (a0.Presses.map WirePress.cells),.i a0.Faults,.sl (.id (g+2+4)) 3 (v4.map WireFault.cells)])] H' g'/\zgg n (zaQ n a0 m3) v3 v4 x7 j=some r) ?_ ?_
    ·rintro v8 H g5 ⟨hS,hM⟩
     change wpA _ _ _ _ (Fr.of [(1,.ep (Wire.cells a0)),(3,.ptr (g+2+2) 0),(5,.i x7),(6,.i v8),(12,.agg [.i 1,.i 2,.i 3,.i 4]),(13,.i v3)]) _ _
     replace hS:St (·<g) H0 [(g+2+4,.row 33 v4.length),(g+2+2,.cells [.i a0.Letters,.i a0.Numbers,.sl .no 3 (a0.Presses.map WirePress.cells),.i a0.Faults,.sl (.id (g+2+4)) 3 (v4.map WireFault.cells)])] H g5:=hS
     replace hM:zgg n (zaQ n a0 m3) v3 v4 x7 v8=some r:=hM
     refine Sq ?_
     refine Rg 2 ?_
     refine Om (.i v8) ?_
     refine Om (.i 0) ?_
     refine Ni ?_
     refine Ws ?_
     refine zaq ?_
     refine zbr (V:=Int×(List WireFault)) (fun v=>[(1,.ep (Wire.cells a0)),(3,.ptr (g+2+2) 0),(5,.i x7),(6,.i v8),(12,.agg [.i 1,.i 2,.i 3,.i 4]),(13,.i v3),(26,.i v8),(27,.i v.1)]) (fun v m7 H' g'=>St (·<g) H0 [(g+2+4,.row 33 v.2.length),(g+2+2,.cells [.i a0.Letters,.i a0.Numbers,.sl .no 3 (a0.Presses.map WirePress.cells),.i a0.Faults,.sl (.id (g+2+4)) 3 (v.2.map WireFault.cells)])] H' g'/\zb8 n (zaQ n a0 m3) v3 x7 v8 m7 v.1 v.2=some r) (n:=n) (0,v4) (.k (.k (.k (.k (.k (.k (.k (.k .nil)))))))) ⟨(hS.keep [true,true] rfl).up (by omega),hM⟩ ?_
     rintro ⟨v10,v11⟩ m7 H g7 ⟨hS,hM⟩
     obtain _ | m7:=m7
     ·exact nomatch (show none=some _ from hM)
     change wpA _ _ _ _ (Fr.of [(1,.ep (Wire.cells a0)),(3,.ptr (g+2+2) 0),(5,.i x7),(6,.i v8),(12,.agg [.i 1,.i 2,.i 3,.i 4]),(13,.i v3),(26,.i v8),(27,.i v10)]) _ _
     replace hS:St (·<g) H0 [(g+2+4,.row 33 v11.length),(g+2+2,.cells [.i a0.Letters,.i a0.Numbers,.sl .no 3 (a0.Presses.map WirePress.cells),.i a0.Faults,.sl (.id (g+2+4)) 3 (v11.map WireFault.cells)])] H g7:=hS
     replace hM:zh3 n (zaQ n a0 m3) v3 x7 v8 (zb8 n (zaQ n a0 m3) v3 x7 v8 m7) v10 v11=some r:=hM
     refine Sq ?_
     refine Rg 1 ?_
     refine Oi (.b (decide (v10<v8))) ?_
     refine Ni ?_
     refine Ws ?_
     refine Sq ?_
     rcases bft (decide (v10<v8)) with hb12 | hb12
     ·replace hM:=ifT hM hb12
      refine Ct hb12 ?_
      refine zar ?_
      refine Ws ?_
      refine zaC (J:=(List WireFault)) (fun j=>[(1,.ep (Wire.cells a0)),(3,.ptr (g+2+2) 0),(5,.i x7),(6,.i v8),(12,.agg [.i 1,.i 2,.i 3,.i 4]),(13,.i v3),(26,.i v8),(27,.i v10)]) (fun j H' g'=>St (·<g) H0 [(g+2+4,.row 33 j.length),(g+2+2,.cells [.i a0.Letters,.i a0.Numbers,.sl .no 3 (a0.Presses.map WirePress.cells),.i a0.Faults,.sl (.id (g+2+4)) 3 (j.map WireFault.cells)])] H' g'/\zgd (zb8 n (zaQ n a0 m3) v3 x7 v8 m7) v10 j=some r) ?_ ?_
      ·rintro v13 H g8 ⟨hS,hM⟩
       change wpA _ _ _ _ (Fr.of [(1,.ep (Wire.cells a0)),(3,.ptr (g+2+2) 0),(5,.i x7),(6,.i v8),(12,.agg [.i 1,.i 2,.i 3,.i 4]),(13,.i v3),(26,.i v8),(27,.i v10)]) _ _
       replace hS:St (·<g) H0 [(g+2+4,.row 33 v13.length),(g+2+2,.cells [.i a0.Letters,.i a0.Numbers,.sl .no 3 (a0.Presses.map WirePress.cells),.i a0.Faults,.sl (.id (g+2+4)) 3 (v13.map WireFault.cells)])] H g8:=hS
       replace hM:zgd (zb8 n (zaQ n a0 m3) v3 x7 v8 m7) v10 v13=some r:=hM
       refine Rg 2 ?_
       refine Oi (.i (w64 (v10+1))) ?_
       refine Om (.i (w64 (v10+1))) ?_
       refine Ni ?_
       exact zaW (w64 (v10+1),v13) (Nat.lt_succ_self _) (.k (.k (.k (.k (.k (.k (.k (.k .nil)))))))) ⟨(hS.keep [true,true] rfl).up (by omega),hM⟩
      ·refine zaq ?_
       refine Sq ?_
       refine Rg 2 ?_
       refine Om (.i v10) ?_
       refine Oa (.i v10) ?_
       refine Ni ?_
       refine Ws ?_
       refine Sq ?_
       refine zaC (J:=Bool) (fun j=>[(1,.ep (Wire.cells a0)),(3,.ptr (g+2+2) 0),(5,.i x7),(6,.i v8),(7,.i v10),(12,.agg [.i 1,.i 2,.i 3,.i 4]),(13,.i v3),(26,.i v8),(27,.i v10),(35,.b j)]) (fun j H' g'=>St (·<g) H0 [(g+2+4,.row 33 v11.length),(g+2+2,.cells [.i a0.Letters,.i a0.Numbers,.sl .no 3 (a0.Presses.map WirePress.cells),.i a0.Faults,.sl (.id (g+2+4)) 3 (v11.map WireFault.cells)])] H' g'/\zgf n (zb8 n (zaQ n a0 m3) v3 x7 v8 m7) x7 v8 v10 v11 j=some r) ?_ ?_
       ·rintro v14 H g9 ⟨hS,hM⟩
        change wpA _ _ _ _ (Fr.of [(1,.ep (Wire.cells a0)),(3,.ptr (g+2+2) 0),(5,.i x7),(6,.i v8),(7,.i v10),(12,.agg [.i 1,.i 2,.i 3,.i 4]),(13,.i v3),(26,.i v8),(27,.i v10),(35,.b v14)]) _ _
        replace hS:St (·<g) H0 [(g+2+4,.row 33 v11.length),(g+2+2,.cells [.i a0.Letters,.i a0.Numbers,.sl .no 3 (a0.Presses.map WirePress.cells),.i a0.Faults,.sl (.id (g+2+4)) 3 (v11.map WireFault.cells)])] H g9:=hS
        replace hM:zgf n (zb8 n (zaQ n a0 m3) v3 x7 v8 m7) x7 v8 v10 v11 v14=some r:=hM
        rcases bft v14 with hb15 | hb15
        ·replace hM:=ifT hM hb15
         refine Ct hb15 ?_
         refine Sq ?_
         refine Rg 13 ?_
         refine Om (.ptr (g+2+2) 0) ?_
         refine Om (.ptr (g+2+2) 0) ?_
         refine zlz (by decide) rfl ?_
         refine zaO (by decide) zhf rfl ?_
         refine za3 (v:=.sl (.id (g+2+4)) 3 (v11.map WireFault.cells)) 1 hS (by decide) rfl rfl .no (po zi2 zkK) ?_
         refine Om (.i x7) ?_
         refine Om (.i v10) ?_
         refine zbD (cs:=[.i x7,.i v10,.i 0]) (by decide) zdQ zh8 rfl ?_
         refine zaK (es:=[[.i x7,.i v10,.i 0]]) hS (by decide) zca zfm rfl zfn rfl (by decide) (by omega) fun H hS=>?_
         obtain ⟨l16,hl16,hM⟩:=zai hM
         refine zcv (xs:=v11) (ys:=([(⟨x7,v10,0⟩:WireFault)]:List WireFault)) (zs:=l16) (f:=WireFault.cells) (L':=[(g9+8,.row 33 1),(g+2+4,.row 33 l16.length),(g+2+2,.cells [.i a0.Letters,.i a0.Numbers,.sl .no 3 (a0.Presses.map WirePress.cells),.i a0.Faults,.sl (.id (g+2+4)) 3 (v11.map WireFault.cells)])]) 1 hS (by decide) rfl rfl rfl rfl .no zca zfm zfn hl16 rfl fun H hS=>?_
         refine zlz (by decide) rfl ?_
         refine zaO (by decide) zhf rfl ?_
         refine za1 (v:=.sl (.id (g+2+4)) 3 (l16.map WireFault.cells)) (ns:=[.sl (.id (g+2+4)) 3 (l16.map WireFault.cells)]) (L':=[(g9+8,.row 33 1),(g+2+4,.row 33 l16.length),(g+2+2,.cells [.i a0.Letters,.i a0.Numbers,.sl .no 3 (a0.Presses.map WirePress.cells),.i a0.Faults,.sl (.id (g+2+4)) 3 (l16.map WireFault.cells)])]) 2 hS rfl rfl .no rfl rfl zow nlb rfl fun H hS=>?_
         refine Ni ?_
         replace hS:=hS.keep (L':=[(g+2+4,.row 33 l16.length),(g+2+2,.cells [.i a0.Letters,.i a0.Numbers,.sl .no 3 (a0.Presses.map WirePress.cells),.i a0.Faults,.sl (.id (g+2+4)) 3 (l16.map WireFault.cells)])]) [false,true,true] rfl
         refine Ws ?_
         refine zbl ?_
         refine zap ?_
         refine zat ?_
         exact zag l16 (.k (.k (.k (.k (.k (.k (.k (.k .nil)))))))) ⟨(hS.keep [true,true] rfl).up (by omega),hM⟩
        ·replace hM:=ifF hM hb15
         refine Cf hb15 ?_
         refine zar ?_
         refine Ws ?_
         refine Sq ?_
         refine Rg 3 ?_
         refine Om (.i v10) ?_
         refine Oi (.i (w64 (v10+1))) ?_
         refine Oa (.i (w64 (v10+1))) ?_
         refine Ni ?_
         refine Ws ?_
         refine zaq ?_
         refine zbr (V:=Int×(List WireFault)) (fun v=>[(1,.ep (Wire.cells a0)),(3,.ptr (g+2+2) 0),(5,.i x7),(6,.i v8),(7,.i v10),(8,.i v.1),(12,.agg [.i 1,.i 2,.i 3,.i 4]),(13,.i v3),(26,.i v8),(27,.i v10)]) (fun v m11 H' g'=>St (·<g) H0 [(g+2+4,.row 33 v.2.length),(g+2+2,.cells [.i a0.Letters,.i a0.Numbers,.sl .no 3 (a0.Presses.map WirePress.cells),.i a0.Faults,.sl (.id (g+2+4)) 3 (v.2.map WireFault.cells)])] H' g'/\zge (zb8 n (zaQ n a0 m3) v3 x7 v8 m7) x7 v8 v10 m11 v.1 v.2=some r) (n:=n) (w64 (v10+1),v11) (.k (.k (.k (.k (.k (.k (.k (.k (.k (.k .nil)))))))))) ⟨(hS.keep [true,true] rfl).up (by omega),hM⟩ ?_
         rintro ⟨v18,v19⟩ m11 H g11 ⟨hS,hM⟩
         obtain _ | m11:=m11
         ·exact nomatch (show none=some _ from hM)
         change wpA _ _ _ _ (Fr.of [(1,.ep (Wire.cells a0)),(3,.ptr (g+2+2) 0),(5,.i x7),(6,.i v8),(7,.i v10),(8,.i v18),(12,.agg [.i 1,.i 2,.i 3,.i 4]),(13,.i v3),(26,.i v8),(27,.i v10)]) _ _
         replace hS:St (·<g) H0 [(g+2+4,.row 33 v19.length),(g+2+2,.cells [.i a0.Letters,.i a0.Numbers,.sl .no 3 (a0.Presses.map WirePress.cells),.i a0.Faults,.sl (.id (g+2+4)) 3 (v19.map WireFault.cells)])] H g11:=hS
         replace hM:zh2 (zb8 n (zaQ n a0 m3) v3 x7 v8 m7) x7 v8 v10 (zge (zb8 n (zaQ n a0 m3) v3 x7 v8 m7) x7 v8 v10 m11) v18 v19=some r:=hM
         refine Sq ?_
         refine Sq ?_
         refine Rg 3 ?_
         refine Om (.i v18) ?_
         refine Om (.i v8) ?_
         refine Oi (.b (decide (v18<v8))) ?_
         refine Ni ?_
         refine Ws ?_
         rcases bft (decide (v18<v8)) with hb20 | hb20
         ·replace hM:=ifT hM hb20
          refine Ct hb20 ?_
          refine zar ?_
          refine Ws ?_
          refine Sq ?_
          refine zaq ?_
          refine Rg 14 ?_
          refine Om (.ptr (g+2+2) 0) ?_
          refine Om (.ptr (g+2+2) 0) ?_
          refine zlz (by decide) rfl ?_
          refine zaO (by decide) zhf rfl ?_
          refine za3 (v:=.sl (.id (g+2+4)) 3 (v19.map WireFault.cells)) 1 hS (by decide) rfl rfl .no (po zi2 zkK) ?_
          refine Om (.i x7) ?_
          refine Om (.i v10) ?_
          refine Om (.i v18) ?_
          refine zbD (cs:=[.i x7,.i v10,.i v18]) (by decide) zdQ zh8 rfl ?_
          refine zaK (es:=[[.i x7,.i v10,.i v18]]) hS (by decide) zca zfm rfl zfn rfl (by decide) (by omega) fun H hS=>?_
          obtain ⟨l21,hl21,hM⟩:=zai hM
          refine zcv (xs:=v19) (ys:=([(⟨x7,v10,v18⟩:WireFault)]:List WireFault)) (zs:=l21) (f:=WireFault.cells) (L':=[(g11+3+9,.row 33 1),(g+2+4,.row 33 l21.length),(g+2+2,.cells [.i a0.Letters,.i a0.Numbers,.sl .no 3 (a0.Presses.map WirePress.cells),.i a0.Faults,.sl (.id (g+2+4)) 3 (v19.map WireFault.cells)])]) 1 hS (by decide) rfl rfl rfl rfl .no zca zfm zfn hl21 rfl fun H hS=>?_
          refine zlz (by decide) rfl ?_
          refine zaO (by decide) zhf rfl ?_
          refine za1 (v:=.sl (.id (g+2+4)) 3 (l21.map WireFault.cells)) (ns:=[.sl (.id (g+2+4)) 3 (l21.map WireFault.cells)]) (L':=[(g11+3+9,.row 33 1),(g+2+4,.row 33 l21.length),(g+2+2,.cells [.i a0.Letters,.i a0.Numbers,.sl .no 3 (a0.Presses.map WirePress.cells),.i a0.Faults,.sl (.id (g+2+4)) 3 (l21.map WireFault.cells)])]) 2 hS rfl rfl .no rfl rfl zow nlb rfl fun H hS=>?_
          refine Ni ?_
          refine zae ?_
          replace hS:=hS.keep (L':=[(g+2+4,.row 33 l21.length),(g+2+2,.cells [.i a0.Letters,.i a0.Numbers,.sl .no 3 (a0.Presses.map WirePress.cells),.i a0.Faults,.sl (.id (g+2+4)) 3 (l21.map WireFault.cells)])]) [false,true,true] rfl
          refine Ws ?_
          refine Rg 3 ?_
          refine Om (.i v18) ?_
          refine Oi (.i (w64 (v18+1))) ?_
          refine Oa (.i (w64 (v18+1))) ?_
          refine Ni ?_
          exact zaW (w64 (v18+1),l21) (Nat.lt_succ_self _) (.k (.k (.k (.k (.k (.k (.k (.k (.k (.k .nil)))))))))) ⟨(hS.keep [true,true] rfl).up (by omega),hM⟩
         ·replace hM:=ifF hM hb20
          refine Cf hb20 ?_
          refine zbl ?_
          refine zap ?_
          refine zan ?_
          refine zat ?_
          refine zae ?_
          exact zag v19 (.k (.k (.k (.k (.k (.k (.k (.k .nil)))))))) ⟨(hS.keep [true,true] rfl).up (by omega),hM⟩
       ·refine Rg 6 ?_
        refine Om (.i x7) ?_
        refine Oi (.b (x7==1)) ?_
        refine Om (.b (x7==1)) ?_
        rcases bft (x7==1) with hb22 | hb22
        ·replace hM:=ifT hM hb22
         refine On (want:=false) hb22 ?_
         refine On (want:=false) hb22 ?_
         refine Pt (.b true) hb22 ?_
         refine Ni ?_
         exact zag true (.k (.k (.k (.k (.k (.k (.k (.k (.k (.k .nil)))))))))) ⟨(hS.keep [true,true] rfl).up (by omega),hM⟩
        ·replace hM:=ifF hM hb22
         refine Oy (want:=false) hb22 ?_
         refine Om (.i x7) ?_
         refine Oy (want:=false) hb22 ?_
         refine Oi (.b (x7==2)) ?_
         refine Pf (.b (x7==2)) hb22 ?_
         refine Ni ?_
         exact zag (x7==2) (.k (.k (.k (.k (.k (.k (.k (.k (.k (.k .nil)))))))))) ⟨(hS.keep [true,true] rfl).up (by omega),hM⟩
     ·replace hM:=ifF hM hb12
      refine Cf hb12 ?_
      refine zbl ?_
      refine zap ?_
      refine zan ?_
      refine zat ?_
      refine zae ?_
      exact zag v11 (.k (.k (.k (.k .nil)))) ⟨(hS.keep [true,true] rfl).up (by omega),hM⟩
    ·refine zaC (J:=Bool) (fun j=>[(1,.ep (Wire.cells a0)),(3,.ptr (g+2+2) 0),(5,.i x7),(6,.i a0.Letters),(12,.agg [.i 1,.i 2,.i 3,.i 4]),(13,.i v3),(23,.b j)]) (fun j H' g'=>St (·<g) H0 [(g+2+4,.row 33 v4.length),(g+2+2,.cells [.i a0.Letters,.i a0.Numbers,.sl .no 3 (a0.Presses.map WirePress.cells),.i a0.Faults,.sl (.id (g+2+4)) 3 (v4.map WireFault.cells)])] H' g'/\zgh n (zaQ n a0 m3) a0 v3 v4 x7 j=some r) ?_ ?_
     ·rintro v23 H g12 ⟨hS,hM⟩
      change wpA _ _ _ _ (Fr.of [(1,.ep (Wire.cells a0)),(3,.ptr (g+2+2) 0),(5,.i x7),(6,.i a0.Letters),(12,.agg [.i 1,.i 2,.i 3,.i 4]),(13,.i v3),(23,.b v23)]) _ _
      replace hS:St (·<g) H0 [(g+2+4,.row 33 v4.length),(g+2+2,.cells [.i a0.Letters,.i a0.Numbers,.sl .no 3 (a0.Presses.map WirePress.cells),.i a0.Faults,.sl (.id (g+2+4)) 3 (v4.map WireFault.cells)])] H g12:=hS
      replace hM:zgh n (zaQ n a0 m3) a0 v3 v4 x7 v23=some r:=hM
      rcases bft v23 with hb24 | hb24
      ·replace hM:=ifT hM hb24
       refine Ct hb24 ?_
       refine Rg 3 ?_
       refine Of ((Wire.cells a0)) zfp ?_
       refine Olp (.i a0.Numbers) zab zaf ?_
       refine Oa (.i a0.Numbers) ?_
       refine Ni ?_
       exact zag a0.Numbers (.k (.k (.k (.k (.k (.k .nil)))))) ⟨(hS.keep [true,true] rfl).up (by omega),hM⟩
      ·replace hM:=ifF hM hb24
       refine Cf hb24 ?_
       refine zar ?_
       exact zag a0.Letters (.k (.k (.k (.k (.k (.k .nil)))))) ⟨(hS.keep [true,true] rfl).up (by omega),hM⟩
     ·refine Rg 6 ?_
      refine Om (.i x7) ?_
      refine Oi (.b (x7==2)) ?_
      refine Om (.b (x7==2)) ?_
      rcases bft (x7==2) with hb25 | hb25
      ·replace hM:=ifT hM hb25
       refine On (want:=false) hb25 ?_
       refine On (want:=false) hb25 ?_
       refine Pt (.b true) hb25 ?_
       refine Ni ?_
       exact zag true (.k (.k (.k (.k (.k (.k (.k .nil))))))) ⟨(hS.keep [true,true] rfl).up (by omega),hM⟩
      ·replace hM:=ifF hM hb25
       refine Oy (want:=false) hb25 ?_
       refine Om (.i x7) ?_
       refine Oy (want:=false) hb25 ?_
       refine Oi (.b (x7==4)) ?_
       refine Pf (.b (x7==4)) hb25 ?_
       refine Ni ?_
       exact zag (x7==4) (.k (.k (.k (.k (.k (.k (.k .nil))))))) ⟨(hS.keep [true,true] rfl).up (by omega),hM⟩
  ·replace hM:=ifF hM hb5
   refine Cf hb5 ?_
   refine zbl ?_
   refine zap ?_
   refine zan ?_
   refine zat ?_
   exact zag v4 (.k .nil) ⟨(hS.keep [true,true] rfl).up (by omega),hM⟩
theorem zgO {n:Nat} {a0:List WireFault} {a1:WireFault} {r:Int} (hM:zbO n a0 a1=some r):zav Try.prog 82 [.sl .no 3 (a0.map WireFault.cells),.agg (WireFault.cells a1)] (.i r):=by
 refine zaj mixed Try.func82 rfl (by decide) Try.ntmps82 (by simp) ?pure fun H0 g hf=>?_
 case pure=>exact .v _
 rw [zah]
 change wpA _ _ _ _ (Fr.of [(0,.sl .no 3 (a0.map WireFault.cells)),(1,.agg (WireFault.cells a1))]) H0 g
 have hS:=St.start hf
 refine Sq ?_
 refine Rg 2 ?_
 refine zbX (v:=.agg (WireFault.cells a1)) (cs:=(WireFault.cells a1)) hS (by decide) rfl rfl (by omega) fun H hS=>?_
 refine Oa (.i 0) ?_
 refine Ni ?_
 refine zaZ (L':=[]) 0 3 hS rfl rfl rfl fun H hS=>?_
 refine Ws ?_
 refine zaC (J:=Unit) (fun j=>[]) (fun j H' g'=>St (·<g) H0 [] H' g'/\zbV=some r) ?_ ?_
 ·rintro _ H g1 ⟨hS,hM⟩
  change wpA _ _ _ _ (Fr.of []) _ _
  replace hS:St (·<g) H0 [] H g1:=hS
  replace hM:zbV=some r:=hM
  refine Sq ?_
  refine Rg 1 ?_
  refine Oa (.i (-1)) ?_
  refine Ni ?_
  refine Ws ?_
  refine zaA ?_
  refine zaJ (x:=.i (-1)) (f:=fun r=>.i r) (.inr rfl) ?_ (.refl _) (Option.some.inj hM) hS
  exact (zao (zac (x:=.i (-1)) rfl))
 ·refine Sq ?_
  refine Rg 3 ?_
  refine Om (.sl .no 3 (a0.map WireFault.cells)) ?_
  refine zcj (n:=a0.length) (by decide) rfl (List.length_map _) zfN ?_
  refine Om (.i 0) ?_
  refine Ni ?_
  refine Ws ?_
  refine zaq ?_
  refine zbr (V:=Int) (fun v=>[(0,.sl .no 3 (a0.map WireFault.cells)),(3,.ep (WireFault.cells a1)),(7,.i (a0.length:Int)),(8,.i v)]) (fun v m2 H' g'=>St (·<g) H0 [] H' g'/\zaV a0 a1 m2 v=some r) (n:=n) 0 (.k (.k (.k (.k .nil)))) ⟨(hS.keep [] rfl).up (by omega),hM⟩ ?_
  rintro v1 m2 H g2 ⟨hS,hM⟩
  obtain _ | m2:=m2
  ·exact nomatch (show none=some _ from hM)
  change wpA _ _ _ _ (Fr.of [(0,.sl .no 3 (a0.map WireFault.cells)),(3,.ep (WireFault.cells a1)),(7,.i (a0.length:Int)),(8,.i v1)]) _ _
  replace hS:St (·<g) H0 [] H g2:=hS
  replace hM:zbI a0 a1 (zaV a0 a1 m2) v1=some r:=hM
  refine Sq ?_
  refine Rg 1 ?_
  refine Oi (.b (decide (v1<(a0.length:Int)))) ?_
  refine Ni ?_
  refine Ws ?_
  refine Sq ?_
  rcases bft (decide (v1<(a0.length:Int))) with hb2 | hb2
  ·replace hM:=ifT hM hb2
   refine Ct hb2 ?_
   refine zar ?_
   refine Ws ?_
   refine Sq ?_
   refine zaq ?_
   refine Sq ?_
   refine Rg 2 ?_
   refine Om (.i v1) ?_
   refine Oa (.i v1) ?_
   refine Ni ?_
   refine Ws ?_
   refine Sq ?_
   have hS0:=hS
   refine zd1 (n:=6) rfl (by kernel_rfl) ?_
   refine Olg (.agg (WireFault.cells a1)) zcb ?_
   refine Om (.sl .no 3 (a0.map WireFault.cells)) ?_
   refine Om (.i v1) ?_
   obtain ⟨x3,hx3,hM⟩:=zai hM
   refine zaU (xs:=a0) (f:=WireFault.cells) (z:=v1) (u:=x3) (by decide) rfl rfl zca hx3 ?_
   refine Olg (.agg (WireFault.cells x3)) zcb ?_
   refine zs2 (cs:=(WireFault.cells a1)) (ds:=(WireFault.cells x3)) (e:=((a1.Kind==x3.Kind)&&((a1.A==x3.A)&&((a1.B==x3.B)&&true)))) (by decide) rfl rfl zkL rfl ?_
   refine Ni ?_
   refine Ws ?_
   rcases bft ((a1.Kind==x3.Kind)&&((a1.A==x3.A)&&((a1.B==x3.B)&&true))) with hb4 | hb4
   ·replace hM:=ifT hM hb4
    refine Ct hb4 ?_
    refine Sq ?_
    refine Rg 2 ?_
    refine Om (.i v1) ?_
    refine Oa (.i v1) ?_
    refine Ni ?_
    refine Ws ?_
    refine zaA ?_
    refine zas ?_
    refine zam ?_
    refine zaL ?_
    refine zas ?_
    refine zaI ?_
    refine zaJ (x:=.i v1) (f:=fun r=>.i r) (.inr rfl) ?_ (.refl _) (Option.some.inj hM) hS
    exact (zao (zac (x:=.i v1) rfl))
   ·replace hM:=ifF hM hb4
    refine Cf hb4 ?_
    refine zar ?_
    refine zae ?_
    refine Ws ?_
    refine Rg 2 ?_
    refine Oi (.i (w64 (v1+1))) ?_
    refine Om (.i (w64 (v1+1))) ?_
    refine Ni ?_
    exact zaW (w64 (v1+1)) (Nat.lt_succ_self _) (.k (.k (.k (.k .nil)))) ⟨(hS.keep [] rfl).up (by omega),hM⟩
  ·replace hM:=ifF hM hb2
   refine Cf hb2 ?_
   refine zbl ?_
   refine zap ?_
   refine zan ?_
   refine zat ?_
   exact zag () .nil ⟨(hS.keep [] rfl).up (by omega),hM⟩
theorem zfW {n:Nat} {a0:List WireFault} {a1:WireFault} {r:Bool} (hM:zbW n a0 a1=some r):zav Try.prog 70 [.sl .no 3 (a0.map WireFault.cells),.agg (WireFault.cells a1)] (.b r):=by
 refine zaj mixed Try.func70 rfl (by decide) Try.ntmps70 (by simp) ?pure fun H0 g hf=>?_
 case pure=>exact .v _
 rw [zah]
 change wpA _ _ _ _ (Fr.of [(0,.sl .no 3 (a0.map WireFault.cells)),(1,.agg (WireFault.cells a1))]) H0 g
 have hS:=St.start hf
 refine Sq ?_
 refine Rg 2 ?_
 refine zbX (v:=.agg (WireFault.cells a1)) (cs:=(WireFault.cells a1)) hS (by decide) rfl rfl (by omega) fun H hS=>?_
 refine Oa (.b false) ?_
 refine Ni ?_
 refine zaZ (L':=[]) 0 3 hS rfl rfl rfl fun H hS=>?_
 refine Ws ?_
 refine Sq ?_
 refine Rg 5 ?_
 refine Om (.sl .no 3 (a0.map WireFault.cells)) ?_
 refine Olg (.agg (WireFault.cells a1)) zcb ?_
 obtain ⟨r1,hr1,hM⟩:=zai hM
 refine zau (bs:=[.sl .no 3 (a0.map WireFault.cells),.agg (WireFault.cells a1)]) (by decide) rfl rfl ((zgO hr1).le (.k (.k .nil))) ?_
 refine Oi (.b (decide (r1≥0))) ?_
 refine Oa (.b (decide (r1≥0))) ?_
 refine Ni ?_
 refine zdz [(4,.b (decide (r1≥0)))] (.k .nil) ?_
 refine zaA ?_
 refine zaJ (x:=.b (decide (r1≥0))) (f:=fun r=>.b r) (.inr rfl) ?_ (.refl _) (Option.some.inj hM) hS
 exact (zao (zac (x:=.b (decide (r1≥0))) rfl))
theorem zm6 {n:Nat} {a0:List Int} {r:Int} (hM:zim n a0=some r):zav Try.prog 83 [.sl .no 1 (a0.map cI)] (.i r):=by
 refine zaj mixed Try.func83 rfl (by decide) Try.ntmps83 (by simp) ?pure fun H0 g hf=>?_
 case pure=>exact .v _
 rw [zah]
 change wpA _ _ _ _ (Fr.of [(0,.sl .no 1 (a0.map cI))]) H0 g
 have hS:=St.start hf
 refine Sq ?_
 refine Rg 1 ?_
 refine Oa (.i 0) ?_
 refine Ni ?_
 refine Ws ?_
 refine Sq ?_
 refine Rg 1 ?_
 refine Oa (.i 0) ?_
 refine Ni ?_
 refine Ws ?_
 refine zaC (J:=Unit) (fun j=>[(3,.i 0)]) (fun j H' g'=>St (·<g) H0 [] H' g'/\zgi=some r) ?_ ?_
 ·rintro _ H g1 ⟨hS,hM⟩
  change wpA _ _ _ _ (Fr.of [(3,.i 0)]) _ _
  replace hS:St (·<g) H0 [] H g1:=hS
  replace hM:zgi=some r:=hM
  refine Sq ?_
  refine Rg 2 ?_
  refine Om (.i 0) ?_
  refine Oa (.i 0) ?_
  refine Ni ?_
  refine Ws ?_
  refine zaA ?_
  refine zaJ (x:=.i 0) (f:=fun r=>.i r) (.inr rfl) ?_ (.refl _) (Option.some.inj hM) hS
  exact (zao (zac (x:=.i 0) rfl))
 ·refine Sq ?_
  refine Rg 3 ?_
  refine Om (.sl .no 1 (a0.map cI)) ?_
  refine zcj (n:=a0.length) (by decide) rfl (List.length_map _) za9 ?_
  refine Om (.i 0) ?_
  refine Ni ?_
  refine Ws ?_
  refine zaq ?_
  refine zbr (V:=Int) (fun v=>[(3,.i 0),(6,.sl .no 1 (a0.map cI)),(7,.i (a0.length:Int)),(8,.i v)]) (fun v m2 H' g'=>St (·<g) H0 [] H' g'/\zdG a0 m2 v=some r) (n:=n) 0 (.k (.k (.k (.k .nil)))) ⟨(hS.keep [] rfl).up (by omega),hM⟩ ?_
  rintro v1 m2 H g2 ⟨hS,hM⟩
  obtain _ | m2:=m2
  ·exact nomatch (show none=some _ from hM)
  change wpA _ _ _ _ (Fr.of [(3,.i 0),(6,.sl .no 1 (a0.map cI)),(7,.i (a0.length:Int)),(8,.i v1)]) _ _
  replace hS:St (·<g) H0 [] H g2:=hS
  replace hM:ze7 a0 (zdG a0 m2) v1=some r:=hM
  refine Sq ?_
  refine Rg 1 ?_
  refine Oi (.b (decide (v1<(a0.length:Int)))) ?_
  refine Ni ?_
  refine Ws ?_
  refine Sq ?_
  rcases bft (decide (v1<(a0.length:Int))) with hb2 | hb2
  ·replace hM:=ifT hM hb2
   refine Ct hb2 ?_
   refine zar ?_
   refine Ws ?_
   refine Sq ?_
   refine zaq ?_
   refine Sq ?_
   refine Rg 3 ?_
   obtain ⟨x3,hx3,hM⟩:=zai hM
   refine zaU (xs:=a0) (f:=cI) (z:=v1) (u:=x3) (by decide) rfl rfl zaR hx3 ?_
   refine Olp (.i x3) zab zaf ?_
   refine Oa (.i x3) ?_
   refine Ni ?_
   refine Ws ?_
   refine Sq ?_
   refine Rg 3 ?_
   refine Om (.i x3) ?_
   refine Om (.i 0) ?_
   refine Oi (.b (x3 != 0)) ?_
   refine Ni ?_
   refine Ws ?_
   rcases bft (x3 != 0) with hb4 | hb4
   ·replace hM:=ifT hM hb4
    refine Ct hb4 ?_
    refine Sq ?_
    refine Rg 2 ?_
    refine Om (.i x3) ?_
    refine Oa (.i x3) ?_
    refine Ni ?_
    refine Ws ?_
    refine zaA ?_
    refine zas ?_
    refine zam ?_
    refine zaL ?_
    refine zas ?_
    refine zaI ?_
    refine zaJ (x:=.i x3) (f:=fun r=>.i r) (.inr rfl) ?_ (.refl _) (Option.some.inj hM) hS
    exact (zao (zac (x:=.i x3) rfl))
   ·replace hM:=ifF hM hb4
    refine Cf hb4 ?_
    refine zar ?_
    refine zae ?_
    refine Ws ?_
    refine Rg 2 ?_
    refine Oi (.i (w64 (v1+1))) ?_
    refine Om (.i (w64 (v1+1))) ?_
    refine Ni ?_
    exact zaW (w64 (v1+1)) (Nat.lt_succ_self _) (.k (.k (.k (.k .nil)))) ⟨(hS.keep [] rfl).up (by omega),hM⟩
  ·replace hM:=ifF hM hb2
   refine Cf hb2 ?_
   refine zbl ?_
   refine zap ?_
   refine zan ?_
   refine zat ?_
   exact zag () (.k .nil) ⟨(hS.keep [] rfl).up (by omega),hM⟩
theorem zie {a0:Int} {r:Bool} (hM:cmp_isNaN_int a0=some r):zav Try.prog 89 [.i a0] (.b r):=by
 refine zaj mixed Try.func89 rfl (by decide) Try.ntmps89 (by simp) ?pure fun H0 g hf=>?_
 case pure=>exact .v _
 rw [zah]
 change wpA _ _ _ _ (Fr.of [(0,.i a0)]) H0 g
 have hS:=St.start hf
 refine Sq ?_
 refine Rg 1 ?_
 refine Oa (.b false) ?_
 refine Ni ?_
 refine Ws ?_
 refine Sq ?_
 refine Rg 4 ?_
 refine Om (.i a0) ?_
 refine Om (.i a0) ?_
 refine Oi (.b (a0 != a0)) ?_
 refine Oa (.b (a0 != a0)) ?_
 refine Ni ?_
 refine zdz [(2,.b (a0 != a0))] (.k .nil) ?_
 refine zaA ?_
 refine zaJ (x:=.b (a0 != a0)) (f:=fun r=>.b r) (.inr rfl) ?_ (.refl _) (Option.some.inj hM) hS
 exact (zao (zac (x:=.b (a0 != a0)) rfl))
theorem zfE {a0:Int} {a1:Int} {r:Int} (hM:cmp_Compare_int a0 a1=some r):zav Try.prog 84 [.i a0,.i a1] (.i r):=by
 refine zaj mixed Try.func84 rfl (by decide) Try.ntmps84 (by simp) ?pure fun H0 g hf=>?_
 case pure=>exact .v _
 rw [zah]
 change wpA _ _ _ _ (Fr.of [(0,.i a0),(1,.i a1)]) H0 g
 have hS:=St.start hf
 refine Sq ?_
 refine Rg 1 ?_
 refine Oa (.i 0) ?_
 refine Ni ?_
 refine Ws ?_
 refine Sq ?_
 refine Rg 3 ?_
 refine Om (.i a0) ?_
 obtain ⟨r1,hr1,hM⟩:=zai hM
 refine zau (bs:=[.i a0]) (by decide) rfl rfl ((zie hr1).le (.k .nil)) ?_
 refine Oa (.b r1) ?_
 refine Ni ?_
 refine Ws ?_
 refine Sq ?_
 refine Rg 3 ?_
 refine Om (.i a1) ?_
 obtain ⟨r2,hr2,hM⟩:=zai hM
 refine zau (bs:=[.i a1]) (by decide) rfl rfl ((zie hr2).le (.k .nil)) ?_
 refine Oa (.b r2) ?_
 refine Ni ?_
 refine Ws ?_
 refine Sq ?_
 refine Sq ?_
 refine Rg 1 ?_
 refine Om (.b r1) ?_
 refine Ni ?_
 refine Ws ?_
 rcases bft r1 with hb3 | hb3
 ·replace hM:=ifT hM hb3
  refine Ct hb3 ?_
  refine Sq ?_
  refine Sq ?_
  refine Rg 1 ?_
  refine Om (.b r2) ?_
  refine Ni ?_
  refine Ws ?_
  rcases bft r2 with hb4 | hb4
  ·replace hM:=ifT hM hb4
   refine Ct hb4 ?_
   refine Sq ?_
   refine Rg 1 ?_
   refine Oa (.i 0) ?_
   refine Ni ?_
   refine Ws ?_
   refine zaA ?_
   refine zam ?_
   refine zam ?_
   refine zaJ (x:=.i 0) (f:=fun r=>.i r) (.inr rfl) ?_ (.refl _) (Option.some.inj hM) hS
   exact (zao (zac (x:=.i 0) rfl))
  ·replace hM:=ifF hM hb4
   refine Cf hb4 ?_
   refine zar ?_
   refine Ws ?_
   refine Sq ?_
   refine Rg 1 ?_
   refine Oa (.i (-1)) ?_
   refine Ni ?_
   refine Ws ?_
   refine zaA ?_
   refine zam ?_
   refine zaJ (x:=.i (-1)) (f:=fun r=>.i r) (.inr rfl) ?_ (.refl _) (Option.some.inj hM) hS
   exact (zao (zac (x:=.i (-1)) rfl))
 ·replace hM:=ifF hM hb3
  refine Cf hb3 ?_
  refine zar ?_
  refine Ws ?_
  refine Sq ?_
  refine Sq ?_
  refine Rg 1 ?_
  refine Om (.b r2) ?_
  refine Ni ?_
  refine Ws ?_
  rcases bft r2 with hb5 | hb5
  ·replace hM:=ifT hM hb5
   refine Ct hb5 ?_
   refine Sq ?_
   refine Rg 1 ?_
   refine Oa (.i 1) ?_
   refine Ni ?_
   refine Ws ?_
   refine zaA ?_
   refine zam ?_
   refine zaJ (x:=.i 1) (f:=fun r=>.i r) (.inr rfl) ?_ (.refl _) (Option.some.inj hM) hS
   exact (zao (zac (x:=.i 1) rfl))
  ·replace hM:=ifF hM hb5
   refine Cf hb5 ?_
   refine zar ?_
   refine Ws ?_
   refine Sq ?_
   refine Sq ?_
   refine Rg 3 ?_
   refine Om (.i a0) ?_
   refine Om (.i a1) ?_
   refine Oi (.b (decide (a0<a1))) ?_
   refine Ni ?_
   refine Ws ?_
   rcases bft (decide (a0<a1)) with hb6 | hb6
   ·replace hM:=ifT hM hb6
    refine Ct hb6 ?_
    refine Sq ?_
    refine Rg 1 ?_
    refine Oa (.i (-1)) ?_
    refine Ni ?_
    refine Ws ?_
    refine zaA ?_
    refine zam ?_
    refine zaJ (x:=.i (-1)) (f:=fun r=>.i r) (.inr rfl) ?_ (.refl _) (Option.some.inj hM) hS
    exact (zao (zac (x:=.i (-1)) rfl))
   ·replace hM:=ifF hM hb6
    refine Cf hb6 ?_
    refine zar ?_
    refine Ws ?_
    refine Sq ?_
    refine Sq ?_
    refine Rg 3 ?_
    refine Om (.i a0) ?_
    refine Om (.i a1) ?_
    refine Oi (.b (decide (a0>a1))) ?_
    refine Ni ?_
    refine Ws ?_
    rcases bft (decide (a0>a1)) with hb7 | hb7
    ·replace hM:=ifT hM hb7
     refine Ct hb7 ?_
     refine Sq ?_
     refine Rg 1 ?_
     refine Oa (.i 1) ?_
     refine Ni ?_
     refine Ws ?_
     refine zaA ?_
     refine zam ?_
     refine zaJ (x:=.i 1) (f:=fun r=>.i r) (.inr rfl) ?_ (.refl _) (Option.some.inj hM) hS
     exact (zao (zac (x:=.i 1) rfl))
    ·replace hM:=ifF hM hb7
     refine Cf hb7 ?_
     refine zar ?_
     refine Ws ?_
     refine Sq ?_
     refine Rg 1 ?_
     refine Oa (.i 0) ?_
     refine Ni ?_
     refine zdz [(4,.i 0)] (.k .nil) ?_
     refine zaA ?_
     refine zaJ (x:=.i 0) (f:=fun r=>.i r) (.inr rfl) ?_ (.refl _) (Option.some.inj hM) hS
     exact (zao (zac (x:=.i 0) rfl))
theorem zmm {n:Nat} {a0:WireFault} {a1:WireFault} {r:Int} (hM:zhs n a0 a1=some r):zav Try.prog 71 [.agg (WireFault.cells a0),.agg (WireFault.cells a1)] (.i r):=by
 refine zaj mixed Try.func71 rfl (by decide) Try.ntmps71 (by simp) ?pure fun H0 g hf=>?_
 case pure=>exact .v _
 rw [zah]
 change wpA _ _ _ _ (Fr.of [(0,.agg (WireFault.cells a0)),(1,.agg (WireFault.cells a1))]) H0 g
 have hS:=St.start hf
 refine Sq ?_
 refine Rg 3 ?_
 refine zbX (v:=.agg (WireFault.cells a0)) (cs:=(WireFault.cells a0)) hS (by decide) rfl rfl (by omega) fun H hS=>?_
 refine zbX (v:=.agg (WireFault.cells a1)) (cs:=(WireFault.cells a1)) hS (by decide) rfl rfl (by omega) fun H hS=>?_
 refine Oa (.i 0) ?_
 refine Ni ?_
 refine zaZ (L':=[(g+1,.cells (WireFault.cells a1))]) 1 2 hS rfl rfl rfl fun H hS=>?_
 refine zaZ (L':=[]) 0 3 hS rfl rfl rfl fun H hS=>?_
 refine Ws ?_
 refine Sq ?_
 have hS0:=hS
 refine zd1 (n:=18) rfl (by kernel_rfl) ?_
 refine Of ((WireFault.cells a0)) zem ?_
 refine Olp (.i a0.Kind) zab zaf ?_
 refine Of ((WireFault.cells a1)) zem ?_
 refine Olp (.i a1.Kind) zab zaf ?_
 obtain ⟨r1,hr1,hM⟩:=zai hM
 refine zau (bs:=[.i a0.Kind,.i a1.Kind]) (by decide) rfl rfl ((zfE hr1).le (.k (.k .nil))) ?_
 refine Of ((WireFault.cells a0)) zcF ?_
 refine Olp (.i a0.A) zab zaf ?_
 refine Of ((WireFault.cells a1)) zcF ?_
 refine Olp (.i a1.A) zab zaf ?_
 obtain ⟨r2,hr2,hM⟩:=zai hM
 refine zau (bs:=[.i a0.A,.i a1.A]) (by decide) rfl rfl ((zfE hr2).le (.k (.k .nil))) ?_
 refine Of ((WireFault.cells a0)) zdh ?_
 refine Olp (.i a0.B) zab zaf ?_
 refine Of ((WireFault.cells a1)) zdh ?_
 refine Olp (.i a1.B) zab zaf ?_
 obtain ⟨r3,hr3,hM⟩:=zai hM
 refine zau (bs:=[.i a0.B,.i a1.B]) (by decide) rfl rfl ((zfE hr3).le (.k (.k .nil))) ?_
 refine zaK (es:=[[.i r1],[.i r2],[.i r3]]) hS (by decide) zaR zcT rfl zcU rfl (by decide) (by omega) fun H hS=>?_
 obtain ⟨r4,hr4,hM⟩:=zai hM
 refine zau (bs:=[.sl (.id (g+3+15)) 1 (([r1,r2,r3]:List Int).map cI)]) (by decide) rfl rfl ((zm6 hr4).le (.cons (.sl _ _ _) .nil)) ?_
 refine Oa (.i r4) ?_
 refine Ni ?_
 replace hS:=hS.keep (L':=[]) [false] rfl
 refine Ws ?_
 refine zaA ?_
 refine zaJ (x:=.i r4) (f:=fun r=>.i r) (.inr rfl) ?_ (.refl _) (Option.some.inj hM) hS
 exact (zao (zac (x:=.i r4) rfl))
theorem zfF {S:Type} {Lo:S->BL} (hk:∀s s',zhi (Lo s) (Lo s')) (hnd:∀s,(ids (Lo s)).Nodup) (hin:∀s,InB In (Lo s)) {aF:WireFault->S->Option (Bool×S)} {f0:AV} (hF:∀s H,Has H (Lo s)->In H f0) (h0:cellsOf f0=some [f0]) (hf:∀{x0:WireFault} {s:S} {r:Bool×S},aF x0 s=some r->zkh Try.prog f0 [.agg (WireFault.cells x0)] (Lo s) (.b r.1) (Lo r.2)) {n:Nat} {a0:List WireFault} {st:S} {r:Int×S} (hM:zcB n aF a0 st=some r):zhD Try.prog 85 [.sl .no 3 (a0.map WireFault.cells),f0] (Lo st) (.i r.1) (Lo r.2):=by
 have hnd0:∀s,(ids (Lo s)).Nodup:=fun s=>hnd s
 refine zbk mixed Try.func85 rfl (by decide) Try.ntmps85 (by simp) (hk _ _) (hnd st) ?pure ?cells fun H0 g hf_ hp=>?_
 case pure=>exact fun H _=>(show Go.AM.Pure _ from .v _).inH
 case cells=>exact hin _
 rw [zah]
 change wpA _ _ _ _ (Fr.of [(0,.sl .no 3 (a0.map WireFault.cells)),(1,f0)]) H0 g
 have hS:=St.startH (L:=([]++Lo st)) hf_ (hnd st) hp
 replace hS:St (fun i=>i<g/\i∉ids (Lo st)) H0 ([]++Lo st) H0 g:=hS
 refine Sq ?_
 refine Rg 1 ?_
 refine Oa (.i 0) ?_
 refine Ni ?_
 refine Ws ?_
 refine zaC (J:=S) (fun j=>[]) (fun j H' g'=>St (fun i=>i<g/\i∉ids (Lo st)) H0 ([]++Lo j) H' g'/\zbu j=some r) ?_ ?_
 ·rintro v1 H g1 ⟨hS,hM⟩
  change wpA _ _ _ _ (Fr.of []) _ _
  replace hS:St (fun i=>i<g/\i∉ids (Lo st)) H0 ([]++Lo v1) H g1:=hS
  replace hM:zbu v1=some r:=hM
  refine Sq ?_
  refine Rg 1 ?_
  refine Oa (.i (-1)) ?_
  refine Ni ?_
  refine Ws ?_
  refine zaA ?_
  refine zc2 (x:=.i (-1)) (f:=fun r=>.i r.1) (fd:=fun r=>(Lo r.2)) (.inr rfl) ?_ (.refl _) (Option.some.inj hM) hS 0 rfl
  exact (zao (zac (x:=.i (-1)) rfl))
 ·refine Sq ?_
  refine Rg 3 ?_
  refine Om (.sl .no 3 (a0.map WireFault.cells)) ?_
  refine zcj (n:=a0.length) (by decide) rfl (List.length_map _) zfN ?_
  refine Om (.i 0) ?_
  refine Ni ?_
  refine Ws ?_
  refine zaq ?_
  refine zbr (V:=Int×S) (fun v=>[(0,.sl .no 3 (a0.map WireFault.cells)),(1,f0),(7,.i (a0.length:Int)),(8,.i v.1)]) (fun v m3 H' g'=>St (fun i=>i<g/\i∉ids (Lo st)) H0 ([]++Lo v.2) H' g'/\zay a0 aF m3 v.1 v.2=some r) (n:=n) (0,st) (.k (.k (.k (.k .nil)))) ⟨(hS.keep [] rfl).up (by omega),hM⟩ ?_
  rintro ⟨v3,v4⟩ m3 H g3 ⟨hS,hM⟩
  obtain _ | m3:=m3
  ·exact nomatch (show none=some _ from hM)
  change wpA _ _ _ _ (Fr.of [(0,.sl .no 3 (a0.map WireFault.cells)),(1,f0),(7,.i (a0.length:Int)),(8,.i v3)]) _ _
  replace hS:St (fun i=>i<g/\i∉ids (Lo st)) H0 ([]++Lo v4) H g3:=hS
  replace hM:zbj a0 aF (zay a0 aF m3) v3 v4=some r:=hM
  refine Sq ?_
  refine Rg 1 ?_
  refine Oi (.b (decide (v3<(a0.length:Int)))) ?_
  refine Ni ?_
  refine Ws ?_
  refine Sq ?_
  rcases bft (decide (v3<(a0.length:Int))) with hb5 | hb5
  ·replace hM:=ifT hM hb5
   refine Ct hb5 ?_
   refine zar ?_
   refine Ws ?_
   refine Sq ?_
   refine zaq ?_
   refine Sq ?_
   refine Rg 2 ?_
   refine Om (.i v3) ?_
   refine Oa (.i v3) ?_
   refine Ni ?_
   refine Ws ?_
   refine Sq ?_
   refine Rg 6 ?_
   refine Om (f0) ?_
   refine Om (.sl .no 3 (a0.map WireFault.cells)) ?_
   refine Om (.i v3) ?_
   obtain ⟨x6,hx6,hM⟩:=zai hM
   refine zaU (xs:=a0) (f:=WireFault.cells) (z:=v3) (u:=x6) (by decide) rfl rfl zca hx6 ?_
   refine Olg (.agg (WireFault.cells x6)) zcb ?_
   obtain ⟨r7,hr7,hM⟩:=zai hM
   replace hS:St (fun i=>i<g/\i∉ids (Lo st)) H0 ([]++Lo v4) _ _:=hS
   refine zhZ (bs:=[.agg (WireFault.cells x6)]) (.inl rfl) hS (by decide) rfl rfl ((hf hr7).le (.k .nil)) (hk _ _).ids (by omega) fun H hS=>?_
   refine Ni ?_
   refine Ws ?_
   rcases bft r7.1 with hb8 | hb8
   ·replace hM:=ifT hM hb8
    refine Ct hb8 ?_
    refine Sq ?_
    refine Rg 2 ?_
    refine Om (.i v3) ?_
    refine Oa (.i v3) ?_
    refine Ni ?_
    refine Ws ?_
    refine zaA ?_
    refine zas ?_
    refine zam ?_
    refine zaL ?_
    refine zas ?_
    refine zaI ?_
    refine zc2 (x:=.i v3) (f:=fun r=>.i r.1) (fd:=fun r=>(Lo r.2)) (.inr rfl) ?_ (.refl _) (Option.some.inj hM) hS 0 rfl
    exact (zao (zac (x:=.i v3) rfl))
   ·replace hM:=ifF hM hb8
    refine Cf hb8 ?_
    refine zar ?_
    refine zae ?_
    refine Ws ?_
    refine Rg 2 ?_
    refine Oi (.i (w64 (v3+1))) ?_
    refine Om (.i (w64 (v3+1))) ?_
    refine Ni ?_
    exact zaW (w64 (v3+1),r7.2) (Nat.lt_succ_self _) (.k (.k (.k (.k .nil)))) ⟨(hS.keep [] rfl).up (by omega),hM⟩
  ·replace hM:=ifF hM hb5
   refine Cf hb5 ?_
   refine zbl ?_
   refine zap ?_
   refine zan ?_
   refine zat ?_
   exact zag v4 .nil ⟨(hS.keep [] rfl).up (by omega),hM⟩
theorem zc4 {S:Type} {Lo:S->BL} (hk:∀s s',zhi (Lo s) (Lo s')) (hnd:∀s,(ids (Lo s)).Nodup) (hin:∀s,InB In (Lo s)) {aF:WireFault->S->Option (Bool×S)} {f0:AV} (hF:∀s H,Has H (Lo s)->In H f0) (h0:cellsOf f0=some [f0]) (hf:∀{x0:WireFault} {s:S} {r:Bool×S},aF x0 s=some r->zkh Try.prog f0 [.agg (WireFault.cells x0)] (Lo s) (.b r.1) (Lo r.2)) {n:Nat} {a0:List WireFault} {st:S} {r:Bool×S} (hM:zaS n aF a0 st=some r):zhD Try.prog 72 [.sl .no 3 (a0.map WireFault.cells),f0] (Lo st) (.b r.1) (Lo r.2):=by
 have hnd0:∀s,(ids (Lo s)).Nodup:=fun s=>hnd s
 refine zbk mixed Try.func72 rfl (by decide) Try.ntmps72 (by simp) (hk _ _) (hnd st) ?pure ?cells fun H0 g hf_ hp=>?_
 case pure=>exact fun H _=>(show Go.AM.Pure _ from .v _).inH
 case cells=>exact hin _
 rw [zah]
 change wpA _ _ _ _ (Fr.of [(0,.sl .no 3 (a0.map WireFault.cells)),(1,f0)]) H0 g
 have hS:=St.startH (L:=([]++Lo st)) hf_ (hnd st) hp
 replace hS:St (fun i=>i<g/\i∉ids (Lo st)) H0 ([]++Lo st) H0 g:=hS
 refine Sq ?_
 refine Rg 1 ?_
 refine Oa (.b false) ?_
 refine Ni ?_
 refine Ws ?_
 refine Sq ?_
 refine Rg 5 ?_
 refine Om (.sl .no 3 (a0.map WireFault.cells)) ?_
 refine Om (f0) ?_
 obtain ⟨r1,hr1,hM⟩:=zai hM
 replace hS:St (fun i=>i<g/\i∉ids (Lo st)) H0 ([]++Lo st) _ _:=hS
 refine ziW (bs:=[.sl .no 3 (a0.map WireFault.cells),f0]) (.inl rfl) hS (by decide) rfl rfl ((zfF (Lo:=Lo)  hk hnd0 hin (aF:=aF) hF h0 hf hr1).le (.k (.k .nil))) (hk _ _).ids (by omega) fun H hS=>?_
 refine Oi (.b (decide (r1.1≥0))) ?_
 refine Oa (.b (decide (r1.1≥0))) ?_
 refine Ni ?_
 refine zdz [(4,.b (decide (r1.1≥0)))] (.k .nil) ?_
 refine zaA ?_
 refine zc2 (x:=.b (decide (r1.1≥0))) (f:=fun r=>.b r.1) (fd:=fun r=>(Lo r.2)) (.inr rfl) ?_ (.refl _) (Option.some.inj hM) hS 0 rfl
 exact (zao (zac (x:=.b (decide (r1.1≥0))) rfl))
theorem zmn {a0:WireFault} {a1:WireFault} {r:Bool} (hM:zht a0 a1=some r):zav Try.prog 74 [.agg (WireFault.cells a0),.agg (WireFault.cells a1)] (.b r):=by
 refine zaj mixed Try.func74 rfl (by decide) Try.ntmps74 (by simp) ?pure fun H0 g hf=>?_
 case pure=>exact .v _
 rw [zah]
 change wpA _ _ _ _ (Fr.of [(0,.agg (WireFault.cells a0)),(1,.agg (WireFault.cells a1))]) H0 g
 have hS:=St.start hf
 refine Sq ?_
 refine Rg 3 ?_
 refine zbX (v:=.agg (WireFault.cells a0)) (cs:=(WireFault.cells a0)) hS (by decide) rfl rfl (by omega) fun H hS=>?_
 refine zbX (v:=.agg (WireFault.cells a1)) (cs:=(WireFault.cells a1)) hS (by decide) rfl rfl (by omega) fun H hS=>?_
 refine Oa (.b false) ?_
 refine Ni ?_
 refine zaZ (L':=[(g+1,.cells (WireFault.cells a1))]) 1 2 hS rfl rfl rfl fun H hS=>?_
 refine zaZ (L':=[]) 0 3 hS rfl rfl rfl fun H hS=>?_
 refine Ws ?_
 refine zaC (J:=Bool) (fun j=>[(4,.b j)]) (fun j H' g'=>St (·<g) H0 [] H' g'/\zcl j=some r) ?_ ?_
 ·rintro v1 H g1 ⟨hS,hM⟩
  change wpA _ _ _ _ (Fr.of [(4,.b v1)]) _ _
  replace hS:St (·<g) H0 [] H g1:=hS
  replace hM:zcl v1=some r:=hM
  refine zaA ?_
  refine zaJ (x:=.b v1) (f:=fun r=>.b r) (.inr rfl) ?_ (.refl _) (Option.some.inj hM) hS
  exact (zao (zac (x:=.b v1) rfl))
 ·refine Rg 39 ?_
  refine Of ((WireFault.cells a0)) zem ?_
  refine Olp (.i a0.Kind) zab zaf ?_
  refine Of ((WireFault.cells a1)) zem ?_
  refine Olp (.i a1.Kind) zab zaf ?_
  refine Oi (.b (a0.Kind==a1.Kind)) ?_
  refine Om (.b (a0.Kind==a1.Kind)) ?_
  rcases bft (a0.Kind==a1.Kind) with hb2 | hb2
  ·replace hM:=ifT hM hb2
   refine Oy (want:=true) hb2 ?_
   refine Of ((WireFault.cells a0)) zem ?_
   refine Oy (want:=true) hb2 ?_
   refine Olp (.i a0.Kind) zab zaf ?_
   refine Oy (want:=true) hb2 ?_
   refine Oi (.b (decide (a0.Kind≥3))) ?_
   refine Pt (.b (decide (a0.Kind≥3))) hb2 ?_
   refine Om (.b (decide (a0.Kind≥3))) ?_
   rcases bft (decide (a0.Kind≥3)) with hb3 | hb3
   ·replace hM:=ifT hM hb3
    refine Oy (want:=true) hb3 ?_
    refine Of ((WireFault.cells a0)) zcF ?_
    refine Oy (want:=true) hb3 ?_
    refine Olp (.i a0.A) zab zaf ?_
    refine Oy (want:=true) hb3 ?_
    refine Of ((WireFault.cells a1)) zcF ?_
    refine Oy (want:=true) hb3 ?_
    refine Olp (.i a1.A) zab zaf ?_
    refine Oy (want:=true) hb3 ?_
    refine Oi (.b (a0.A==a1.A)) ?_
    refine Oy (want:=true) hb3 ?_
    refine Om (.b (a0.A==a1.A)) ?_
    rcases bft (a0.A==a1.A) with hb4 | hb4
    ·replace hM:=ifT hM hb4
     refine On (want:=false) hb4 ?_
     refine On (want:=false) hb4 ?_
     refine On (want:=false) hb4 ?_
     refine On (want:=false) hb4 ?_
     refine On (want:=false) hb4 ?_
     refine Oy (want:=true) hb3 ?_
     refine Pt (.b true) hb4 ?_
     refine Oy (want:=true) hb3 ?_
     refine Om (.b true) ?_
     refine Og ?_
     refine Og ?_
     refine Og ?_
     refine Og ?_
     refine Og ?_
     refine Oy (want:=true) hb3 ?_
     refine za7 (v:=.b true) (e:=true) (by decide) rfl rfl rfl ?_
     refine Oy (want:=true) hb3 ?_
     refine Om (.b true) ?_
     refine Og ?_
     refine Og ?_
     refine Og ?_
     refine Og ?_
     refine Og ?_
     refine Oy (want:=true) hb3 ?_
     refine za7 (v:=.b true) (e:=true) (by decide) rfl rfl rfl ?_
     refine Pt (.b true) hb3 ?_
     refine Oa (.b true) ?_
     refine Ni ?_
     exact zag true (.k .nil) ⟨(hS.keep [] rfl).up (by omega),hM⟩
    ·replace hM:=ifF hM hb4
     refine Oy (want:=false) hb4 ?_
     refine Of ((WireFault.cells a0)) zcF ?_
     refine Oy (want:=false) hb4 ?_
     refine Olp (.i a0.A) zab zaf ?_
     refine Oy (want:=false) hb4 ?_
     refine Of ((WireFault.cells a1)) zdh ?_
     refine Oy (want:=false) hb4 ?_
     refine Olp (.i a1.B) zab zaf ?_
     refine Oy (want:=false) hb4 ?_
     refine Oi (.b (a0.A==a1.B)) ?_
     refine Oy (want:=true) hb3 ?_
     refine Pf (.b (a0.A==a1.B)) hb4 ?_
     refine Oy (want:=true) hb3 ?_
     refine Om (.b (a0.A==a1.B)) ?_
     rcases bft (a0.A==a1.B) with hb5 | hb5
     ·replace hM:=ifT hM hb5
      refine On (want:=false) hb5 ?_
      refine On (want:=false) hb5 ?_
      refine On (want:=false) hb5 ?_
      refine On (want:=false) hb5 ?_
      refine On (want:=false) hb5 ?_
      refine Oy (want:=true) hb3 ?_
      refine Pt (.b true) hb5 ?_
      refine Oy (want:=true) hb3 ?_
      refine Om (.b true) ?_
      refine Og ?_
      refine Og ?_
      refine Og ?_
      refine Og ?_
      refine Og ?_
      refine Oy (want:=true) hb3 ?_
      refine za7 (v:=.b true) (e:=true) (by decide) rfl rfl rfl ?_
      refine Pt (.b true) hb3 ?_
      refine Oa (.b true) ?_
      refine Ni ?_
      exact zag true (.k .nil) ⟨(hS.keep [] rfl).up (by omega),hM⟩
     ·replace hM:=ifF hM hb5
      refine Oy (want:=false) hb5 ?_
      refine Of ((WireFault.cells a0)) zdh ?_
      refine Oy (want:=false) hb5 ?_
      refine Olp (.i a0.B) zab zaf ?_
      refine Oy (want:=false) hb5 ?_
      refine Of ((WireFault.cells a1)) zcF ?_
      refine Oy (want:=false) hb5 ?_
      refine Olp (.i a1.A) zab zaf ?_
      refine Oy (want:=false) hb5 ?_
      refine Oi (.b (a0.B==a1.A)) ?_
      refine Oy (want:=true) hb3 ?_
      refine Pf (.b (a0.B==a1.A)) hb5 ?_
      refine Oy (want:=true) hb3 ?_
      refine Om (.b (a0.B==a1.A)) ?_
      rcases bft (a0.B==a1.A) with hb6 | hb6
      ·replace hM:=ifT hM hb6
       refine On (want:=false) hb6 ?_
       refine On (want:=false) hb6 ?_
       refine On (want:=false) hb6 ?_
       refine On (want:=false) hb6 ?_
       refine On (want:=false) hb6 ?_
       refine Oy (want:=true) hb3 ?_
       refine Pt (.b true) hb6 ?_
       refine Pt (.b true) hb3 ?_
       refine Oa (.b true) ?_
       refine Ni ?_
       exact zag true (.k .nil) ⟨(hS.keep [] rfl).up (by omega),hM⟩
      ·replace hM:=ifF hM hb6
       refine Oy (want:=false) hb6 ?_
       refine Of ((WireFault.cells a0)) zdh ?_
       refine Oy (want:=false) hb6 ?_
       refine Olp (.i a0.B) zab zaf ?_
       refine Oy (want:=false) hb6 ?_
       refine Of ((WireFault.cells a1)) zdh ?_
       refine Oy (want:=false) hb6 ?_
       refine Olp (.i a1.B) zab zaf ?_
       refine Oy (want:=false) hb6 ?_
       refine Oi (.b (a0.B==a1.B)) ?_
       refine Oy (want:=true) hb3 ?_
       refine Pf (.b (a0.B==a1.B)) hb6 ?_
       refine Pt (.b (a0.B==a1.B)) hb3 ?_
       refine Oa (.b (a0.B==a1.B)) ?_
       refine Ni ?_
       exact zag (a0.B==a1.B) (.k .nil) ⟨(hS.keep [] rfl).up (by omega),hM⟩
   ·replace hM:=ifF hM hb3
    refine On (want:=true) hb3 ?_
    refine On (want:=true) hb3 ?_
    refine On (want:=true) hb3 ?_
    refine On (want:=true) hb3 ?_
    refine On (want:=true) hb3 ?_
    refine On (want:=true) hb3 ?_
    refine zak (j:=16) (by decide) rfl ?_
    refine zak (j:=16) (by decide) rfl ?_
    refine zak (j:=16) (by decide) rfl ?_
    refine zak (j:=16) (by decide) rfl ?_
    refine zak (j:=16) (by decide) rfl ?_
    refine On (want:=true) hb3 ?_
    refine On (want:=true) hb3 ?_
    refine zak (j:=23) (by decide) rfl ?_
    refine zak (j:=23) (by decide) rfl ?_
    refine zak (j:=23) (by decide) rfl ?_
    refine zak (j:=23) (by decide) rfl ?_
    refine zak (j:=23) (by decide) rfl ?_
    refine On (want:=true) hb3 ?_
    refine On (want:=true) hb3 ?_
    refine zak (j:=30) (by decide) rfl ?_
    refine zak (j:=30) (by decide) rfl ?_
    refine zak (j:=30) (by decide) rfl ?_
    refine zak (j:=30) (by decide) rfl ?_
    refine zak (j:=30) (by decide) rfl ?_
    refine On (want:=true) hb3 ?_
    refine Pf (.b false) hb3 ?_
    refine Oa (.b false) ?_
    refine Ni ?_
    exact zag false (.k .nil) ⟨(hS.keep [] rfl).up (by omega),hM⟩
  ·replace hM:=ifF hM hb2
   refine On (want:=true) hb2 ?_
   refine On (want:=true) hb2 ?_
   refine On (want:=true) hb2 ?_
   refine Pf (.b false) hb2 ?_
   refine Om (.b false) ?_
   refine Og ?_
   refine Og ?_
   refine Og ?_
   refine Og ?_
   refine Og ?_
   refine Og ?_
   refine zak (j:=16) (by decide) rfl ?_
   refine zak (j:=16) (by decide) rfl ?_
   refine zak (j:=16) (by decide) rfl ?_
   refine zak (j:=16) (by decide) rfl ?_
   refine zak (j:=16) (by decide) rfl ?_
   refine Og ?_
   refine Og ?_
   refine zak (j:=23) (by decide) rfl ?_
   refine zak (j:=23) (by decide) rfl ?_
   refine zak (j:=23) (by decide) rfl ?_
   refine zak (j:=23) (by decide) rfl ?_
   refine zak (j:=23) (by decide) rfl ?_
   refine Og ?_
   refine Og ?_
   refine zak (j:=30) (by decide) rfl ?_
   refine zak (j:=30) (by decide) rfl ?_
   refine zak (j:=30) (by decide) rfl ?_
   refine zak (j:=30) (by decide) rfl ?_
   refine zak (j:=30) (by decide) rfl ?_
   refine Og ?_
   refine zaE (v:=.b false) (e:=false) (by decide) rfl rfl rfl ?_
   refine Oa (.b false) ?_
   refine Ni ?_
   exact zag false (.k .nil) ⟨(hS.keep [] rfl).up (by omega),hM⟩
theorem zfr {a0:WireFault} {a1:WireFault} {r:Bool} (hM:zbg a0 a1=some r):zav Try.prog 73 [.agg (WireFault.cells a0),.ep (WireFault.cells a1)] (.b r):=by
 refine zaj mixed Try.func73 rfl (by decide) Try.ntmps73 (by simp) ?pure fun H0 g hf=>?_
 case pure=>exact .v _
 rw [zah]
 change wpA _ _ _ _ (Fr.of [(0,.agg (WireFault.cells a0)),(1,.ep (WireFault.cells a1))]) H0 g
 have hS:=St.start hf
 refine Sq ?_
 refine Rg 2 ?_
 refine zbX (v:=.agg (WireFault.cells a0)) (cs:=(WireFault.cells a0)) hS (by decide) rfl rfl (by omega) fun H hS=>?_
 refine Oa (.b false) ?_
 refine Ni ?_
 refine zaZ (L':=[]) 0 2 hS rfl rfl rfl fun H hS=>?_
 refine Ws ?_
 refine Sq ?_
 refine Rg 4 ?_
 refine Olg (.agg (WireFault.cells a1)) zcb ?_
 refine Olg (.agg (WireFault.cells a0)) zcb ?_
 obtain ⟨r1,hr1,hM⟩:=zai hM
 refine zau (bs:=[.agg (WireFault.cells a1),.agg (WireFault.cells a0)]) (by decide) rfl rfl ((zmn hr1).le (.k (.k .nil))) ?_
 refine Oa (.b r1) ?_
 refine Ni ?_
 refine zdz [(3,.b r1)] (.k .nil) ?_
 refine zaA ?_
 refine zaJ (x:=.b r1) (f:=fun r=>.b r) (.inr rfl) ?_ (.refl _) (Option.some.inj hM) hS
 exact (zao (zac (x:=.b r1) rfl))
theorem zgb {n:Nat} {a0:Option Wiring_} {a1:List WireFault} {r:Bool} (hM:zda n a0 a1=some r):zav Try.prog 45 [pA Wiring_.cells a0,.sl .no 3 (a1.map WireFault.cells)] (.b r):=by
 refine zaj mixed Try.func45 rfl (by decide) Try.ntmps45 (by simp) ?pure fun H0 g hf=>?_
 case pure=>exact .v _
 rw [zah]
 change wpA _ _ _ _ (Fr.of [(0,pA Wiring_.cells a0),(1,.sl .no 3 (a1.map WireFault.cells))]) H0 g
 have hS:=St.start hf
 refine Sq ?_
 refine Rg 1 ?_
 refine Oa (.b false) ?_
 refine Ni ?_
 refine Ws ?_
 refine zaC (J:=Unit) (fun j=>[]) (fun j H' g'=>St (·<g) H0 [] H' g'/\zc9=some r) ?_ ?_
 ·rintro _ H g1 ⟨hS,hM⟩
  change wpA _ _ _ _ (Fr.of []) _ _
  replace hS:St (·<g) H0 [] H g1:=hS
  replace hM:zc9=some r:=hM
  refine Sq ?_
  refine Rg 1 ?_
  refine Oa (.b true) ?_
  refine Ni ?_
  refine Ws ?_
  refine zaA ?_
  refine zaJ (x:=.b true) (f:=fun r=>.b r) (.inr rfl) ?_ (.refl _) (Option.some.inj hM) hS
  exact (zao (zac (x:=.b true) rfl))
 ·refine Sq ?_
  refine Rg 3 ?_
  refine Om (.sl .no 3 (a1.map WireFault.cells)) ?_
  refine zcj (n:=a1.length) (by decide) rfl (List.length_map _) zfN ?_
  refine Om (.i 0) ?_
  refine Ni ?_
  refine Ws ?_
  refine zaq ?_
  refine zbr (V:=Int) (fun v=>[(0,pA Wiring_.cells a0),(1,.sl .no 3 (a1.map WireFault.cells)),(7,.sl .no 3 (a1.map WireFault.cells)),(8,.i (a1.length:Int)),(9,.i v)]) (fun v m2 H' g'=>St (·<g) H0 [] H' g'/\za5 n a0 a1 m2 v=some r) (n:=n) 0 (.k (.k (.k (.k (.k .nil))))) ⟨(hS.keep [] rfl).up (by omega),hM⟩ ?_
  rintro v1 m2 H g2 ⟨hS,hM⟩
  obtain _ | m2:=m2
  ·exact nomatch (show none=some _ from hM)
  change wpA _ _ _ _ (Fr.of [(0,pA Wiring_.cells a0),(1,.sl .no 3 (a1.map WireFault.cells)),(7,.sl .no 3 (a1.map WireFault.cells)),(8,.i (a1.length:Int)),(9,.i v1)]) _ _
  replace hS:St (·<g) H0 [] H g2:=hS
  replace hM:zcH n a0 a1 (za5 n a0 a1 m2) v1=some r:=hM
  refine Sq ?_
  refine Rg 1 ?_
  refine Oi (.b (decide (v1<(a1.length:Int)))) ?_
  refine Ni ?_
  refine Ws ?_
  refine Sq ?_
  rcases bft (decide (v1<(a1.length:Int))) with hb2 | hb2
  ·replace hM:=ifT hM hb2
   refine Ct hb2 ?_
   refine zar ?_
   refine Ws ?_
   refine Sq ?_
   refine zaq ?_
   refine Sq ?_
   refine Rg 6 ?_
   refine Om (.i v1) ?_
   obtain ⟨x3,hx3,hM⟩:=zai hM
   refine zaU (xs:=a1) (f:=WireFault.cells) (z:=v1) (u:=x3) (by decide) rfl rfl zca hx3 ?_
   refine Olg (.agg (WireFault.cells x3)) zcb ?_
   refine zcp hS (by decide) zdQ (by omega) fun H hS=>?_
   refine Oa (.i v1) ?_
   refine za1 (v:=.agg (WireFault.cells x3)) (ns:=(WireFault.cells x3)) (L':=[(g2+1+3,.cells (WireFault.cells x3))]) 0 hS rfl rfl .no rfl rfl zj8 nlb rfl fun H hS=>?_
   refine Ni ?_
   refine zaZ (L':=[]) 0 6 hS rfl rfl rfl fun H hS=>?_
   refine Ws ?_
   refine zaC (J:=Bool) (fun j=>[(0,pA Wiring_.cells a0),(1,.sl .no 3 (a1.map WireFault.cells)),(7,.sl .no 3 (a1.map WireFault.cells)),(8,.i (a1.length:Int)),(9,.i v1),(41,.b j)]) (fun j H' g'=>St (·<g) H0 [] H' g'/\zbw (za5 n a0 a1 m2) v1 j=some r) ?_ ?_
   ·rintro v4 H g3 ⟨hS,hM⟩
    change wpA _ _ _ _ (Fr.of [(0,pA Wiring_.cells a0),(1,.sl .no 3 (a1.map WireFault.cells)),(7,.sl .no 3 (a1.map WireFault.cells)),(8,.i (a1.length:Int)),(9,.i v1),(41,.b v4)]) _ _
    replace hS:St (·<g) H0 [] H g3:=hS
    replace hM:zbw (za5 n a0 a1 m2) v1 v4=some r:=hM
    rcases bft v4 with hb5 | hb5
    ·replace hM:=ifT hM hb5
     refine Ct hb5 ?_
     refine Sq ?_
     refine Rg 1 ?_
     refine Oa (.b false) ?_
     refine Ni ?_
     refine Ws ?_
     refine zaA ?_
     refine zas ?_
     refine zam ?_
     refine zaL ?_
     refine zas ?_
     refine zaI ?_
     refine zaJ (x:=.b false) (f:=fun r=>.b r) (.inr rfl) ?_ (.refl _) (Option.some.inj hM) hS
     exact (zao (zac (x:=.b false) rfl))
    ·replace hM:=ifF hM hb5
     refine Cf hb5 ?_
     refine zar ?_
     refine zae ?_
     refine Ws ?_
     refine Rg 2 ?_
     refine Oi (.i (w64 (v1+1))) ?_
     refine Om (.i (w64 (v1+1))) ?_
     refine Ni ?_
     exact zaW (w64 (v1+1)) (Nat.lt_succ_self _) (.k (.k (.k (.k (.k .nil))))) ⟨(hS.keep [] rfl).up (by omega),hM⟩
   ·have hS0:=hS
    refine zd1 (n:=28) rfl (by kernel_rfl) ?_
    refine Om (pA Wiring_.cells a0) ?_
    obtain ⟨x6,hx6,hM⟩:=zai hM
    refine zsA (f:=Wiring_.cells) (p:=a0) (u:=x6) (by decide) rfl hx6 ?_
    refine Of ((Wiring_.cells x6)) zhf ?_
    refine Olp (.sl .no 3 (x6.all.map WireFault.cells)) zi2 zkK ?_
    refine Olg (.agg (WireFault.cells x3)) zcb ?_
    obtain ⟨r7,hr7,hM⟩:=zai hM
    refine zau (bs:=[.sl .no 3 (x6.all.map WireFault.cells),.agg (WireFault.cells x3)]) (by decide) rfl rfl ((zfW hr7).le (.k (.k .nil))) ?_
    refine zd7 (e:=r7) (by decide) rfl ?_
    refine Om (.b (!r7)) ?_
    rcases bft (!r7) with hb8 | hb8
    ·replace hM:=ifT hM hb8
     refine On (want:=false) hb8 ?_
     refine On (want:=false) hb8 ?_
     refine On (want:=false) hb8 ?_
     refine zak (j:=10) (by decide) rfl ?_
     refine zak (j:=10) (by decide) rfl ?_
     refine zak (j:=10) (by decide) rfl ?_
     refine zak (j:=10) (by decide) rfl ?_
     refine zak (j:=10) (by decide) rfl ?_
     refine zak (j:=10) (by decide) rfl ?_
     refine zak (j:=10) (by decide) rfl ?_
     refine zak (j:=10) (by decide) rfl ?_
     refine On (want:=false) hb8 ?_
     refine Pt (.b true) hb8 ?_
     refine Om (.b true) ?_
     refine Og ?_
     refine Og ?_
     refine Og ?_
     refine Og ?_
     refine Og ?_
     refine za7 (v:=.b true) (e:=true) (by decide) rfl rfl rfl ?_
     refine Ni ?_
     exact zag true (.k (.k (.k (.k (.k (.k .nil)))))) ⟨(hS.keep [] rfl).up (by omega),hM⟩
    ·replace hM:=ifF hM hb8
     refine Oy (want:=false) hb8 ?_
     refine Om (.i v1) ?_
     refine Oy (want:=false) hb8 ?_
     refine Oi (.b (decide (v1>0))) ?_
     refine Oy (want:=false) hb8 ?_
     refine Om (.b (decide (v1>0))) ?_
     rcases bft (decide (v1>0)) with hb9 | hb9
     ·replace hM:=ifT hM hb9
      refine Oy (want:=true) hb9 ?_
      refine Om (.sl .no 3 (a1.map WireFault.cells)) ?_
      refine Oy (want:=true) hb9 ?_
      refine Om (.i v1) ?_
      refine Oy (want:=true) hb9 ?_
      refine Oi (.i (w64 (v1-1))) ?_
      refine Oy (want:=true) hb9 ?_
      obtain ⟨x10,hx10,hM⟩:=zai hM
      refine zaU (xs:=a1) (f:=WireFault.cells) (z:=(w64 (v1-1))) (u:=x10) (by decide) rfl rfl zca hx10 ?_
      refine Oy (want:=true) hb9 ?_
      refine Olg (.agg (WireFault.cells x10)) zcb ?_
      refine Oy (want:=true) hb9 ?_
      refine Olg (.agg (WireFault.cells x3)) zcb ?_
      refine Oy (want:=true) hb9 ?_
      obtain ⟨r11,hr11,hM⟩:=zai hM
      refine zau (bs:=[.agg (WireFault.cells x10),.agg (WireFault.cells x3)]) (by decide) rfl rfl ((zmm hr11).le (.k (.k .nil))) ?_
      refine Oy (want:=true) hb9 ?_
      refine Oi (.b (decide (r11≥0))) ?_
      refine Oy (want:=false) hb8 ?_
      refine Pt (.b (decide (r11≥0))) hb9 ?_
      refine Pf (.b (decide (r11≥0))) hb8 ?_
      refine Om (.b (decide (r11≥0))) ?_
      rcases bft (decide (r11≥0)) with hb12 | hb12
      ·replace hM:=ifT hM hb12
       refine On (want:=false) hb12 ?_
       refine On (want:=false) hb12 ?_
       refine On (want:=false) hb12 ?_
       refine On (want:=false) hb12 ?_
       refine On (want:=false) hb12 ?_
       refine Pt (.b true) hb12 ?_
       refine Ni ?_
       exact zag true (.k (.k (.k (.k (.k (.k .nil)))))) ⟨(hS.keep [] rfl).up (by omega),hM⟩
      ·replace hM:=ifF hM hb12
       refine Oy (want:=false) hb12 ?_
       refine Om (.sl .no 3 (a1.map WireFault.cells)) ?_
       refine Oy (want:=false) hb12 ?_
       refine Om (.i v1) ?_
       refine Oy (want:=false) hb12 ?_
       obtain ⟨c13,hc13,hM⟩:=zai hM
       refine zqa (xs:=a1) (ys:=c13) (f:=WireFault.cells) (p:=0) (q:=v1) (by decide) rfl zca (.inl ⟨rfl,rfl⟩) (.inr rfl) hc13 ?_
       refine Oy (want:=false) hb12 ?_
       refine zcO (first:=[]) (cap:=[.ep (WireFault.cells x3)]) (by decide) rfl rfl ?_
       refine Oy (want:=false) hb12 ?_
       obtain ⟨r14,hr14,hM⟩:=zai hM
       refine zau (bs:=[.sl .no 3 (c13.map WireFault.cells),.fn (.func 73) [] [.ep (WireFault.cells x3)]]) (by decide) rfl rfl (zee ((zc4 (Lo:=(fun (_:Unit)=>[]))  (fun _ _=>zdJ) (fun _=>List.nodup_nil) (fun _=>zdi) (aF:=(fun (x0:WireFault) (_:Unit)=>(zbg x0 x3).map fun y=>(y,()))) (fun _ H hH=>(.fn _ _ _ zcq (zbo (.ep _ (zbo (show Go.AM.Pure _ from .v _).inH (zbo (show Go.AM.Pure _ from .v _).inH (zbo (show Go.AM.Pure _ from .v _).inH zcq)))) zcq))) rfl (fun h=>zhm (zfr (zdK h))) hr14).le (.k (.k .nil)))) ?_
       refine Pf (.b r14.1) hb12 ?_
       refine Ni ?_
       exact zag r14.1 (.k (.k (.k (.k (.k (.k .nil)))))) ⟨(hS.keep [] rfl).up (by omega),hM⟩
     ·replace hM:=ifF hM hb9
      refine On (want:=true) hb9 ?_
      refine On (want:=true) hb9 ?_
      refine On (want:=true) hb9 ?_
      refine On (want:=true) hb9 ?_
      refine On (want:=true) hb9 ?_
      refine On (want:=true) hb9 ?_
      refine On (want:=true) hb9 ?_
      refine On (want:=true) hb9 ?_
      refine Oy (want:=false) hb8 ?_
      refine Pf (.b false) hb9 ?_
      refine Pf (.b false) hb8 ?_
      refine Om (.b false) ?_
      refine Oz ?_
      refine Om (.sl .no 3 (a1.map WireFault.cells)) ?_
      refine Oz ?_
      refine Om (.i v1) ?_
      refine Oz ?_
      obtain ⟨c15,hc15,hM⟩:=zai hM
      refine zqa (xs:=a1) (ys:=c15) (f:=WireFault.cells) (p:=0) (q:=v1) (by decide) rfl zca (.inl ⟨rfl,rfl⟩) (.inr rfl) hc15 ?_
      refine Oz ?_
      refine zcO (first:=[]) (cap:=[.ep (WireFault.cells x3)]) (by decide) rfl rfl ?_
      refine Oz ?_
      obtain ⟨r16,hr16,hM⟩:=zai hM
      refine zau (bs:=[.sl .no 3 (c15.map WireFault.cells),.fn (.func 73) [] [.ep (WireFault.cells x3)]]) (by decide) rfl rfl (zee ((zc4 (Lo:=(fun (_:Unit)=>[]))  (fun _ _=>zdJ) (fun _=>List.nodup_nil) (fun _=>zdi) (aF:=(fun (x0:WireFault) (_:Unit)=>(zbg x0 x3).map fun y=>(y,()))) (fun _ H hH=>(.fn _ _ _ zcq (zbo (.ep _ (zbo (show Go.AM.Pure _ from .v _).inH (zbo (show Go.AM.Pure _ from .v _).inH (zbo (show Go.AM.Pure _ from .v _).inH zcq)))) zcq))) rfl (fun h=>zhm (zfr (zdK h))) hr16).le (.k (.k .nil)))) ?_
      refine zaE (v:=.b r16.1) (e:=false) (by decide) rfl rfl rfl ?_
      refine Ni ?_
      exact zag r16.1 (.k (.k (.k (.k (.k (.k .nil)))))) ⟨(hS.keep [] rfl).up (by omega),hM⟩
  ·replace hM:=ifF hM hb2
   refine Cf hb2 ?_
   refine zbl ?_
   refine zap ?_
   refine zan ?_
   refine zat ?_
   exact zag () .nil ⟨(hS.keep [] rfl).up (by omega),hM⟩
theorem zif {xs u:List Int} {off:Nat} {a1:WireFault} {p:Nat} (hM:zdb xs off a1=some u):ziO Try.prog 76 [.ptr p off,.agg a1.cells] p (xs.map vI) (.tup []) ((List.range xs.length).map fun q=>vI (u.getD q 0)):=by
 unfold zdb at hM
 split at hM
 case isFalse=>cases hM
 case isTrue hab =>
 obtain ⟨hA,hB,hx⟩:=hab
 injection hM with hM
 have hul:u.length=xs.length:=by rw [←hM];simp
 rw [←hul,ziv]
 refine zp4 mixed Try.func76 rfl (by decide) Try.ntmps76 (by simp) (.tup _ zaG) (fun c hc=>by obtain ⟨x,_,rfl⟩:=List.mem_map.1 hc;exact .v _) fun H0 g hf hp=>?_
 rw [zah]
 change wpA _ _ _ _ (Fr.of [(0,.ptr p off),(1,.agg a1.cells)]) H0 g
 have hS:=St.startP hf hp
 refine Sq ?_
 refine Rg 1 ?_
 refine zbX (v:=.agg a1.cells) (cs:=a1.cells) hS (by decide) rfl rfl (by omega) fun H hS=>?_
 refine Ni ?_
 refine zaZ (L':=[(p,.cells (xs.map vI))]) 0 3 hS rfl rfl rfl fun H hS=>?_
 refine Ws ?_
 have hS0:=hS
 refine zpZ (n:=16) [(15,8),(15,12)] rfl (by kernel_rfl) (by kernel_rfl) ?_
 refine Om (.ptr p off) ?_
 refine Of (a1.cells) zcF ?_
 refine Olp (.i a1.A) zab zaf ?_
 refine Om (.ptr p off) ?_
 refine Of (a1.cells) zdh ?_
 refine Olp (.i a1.B) zab zaf ?_
 refine Of (a1.cells) zdh ?_
 refine Olp (.i a1.B) zab zaf ?_
 refine Of (a1.cells) zcF ?_
 refine Olp (.i a1.A) zab zaf ?_
 refine zlz (by decide) rfl ?_
 refine zij (z:=a1.A) (by decide) rfl rfl zg1 hA ?_
 refine za1 (v:=.i a1.B) (ns:=[.i a1.B]) (L':=[(p,.cells (zdm (xs.map vI) (off+a1.A.toNat*1) [.i a1.B]))]) 0 hS rfl rfl (.st hS0 0 rfl (by omega)) rfl rfl zf0 (by simp;omega) rfl fun H hS=>?_
 refine zlz (by decide) rfl ?_
 refine zij (z:=a1.B) (by decide) rfl rfl zg1 hB ?_
 have e1:zdm (xs.map vI) (off+a1.A.toNat*1) [.i a1.B]=(xs.set (off+a1.A.toNat) a1.B).map vI:=by
  rw [zjq (by simp;omega),List.map_set,Nat.mul_one]
  rfl
 rw [e1] at hS
 refine za1 (v:=.i a1.A) (ns:=[.i a1.A]) (L':=[(p,.cells (zdm ((xs.set (off+a1.A.toNat) a1.B).map vI) (off+a1.B.toNat*1) [.i a1.A]))]) 0 hS rfl rfl (.st hS0 0 rfl (by omega)) rfl rfl zf0 (by simp;omega) rfl fun H hS=>?_
 have e2:zdm ((xs.set (off+a1.A.toNat) a1.B).map vI) (off+a1.B.toNat*1) [.i a1.A]=u.map vI:=by
  rw [zjq (by simp;omega),←hM,Nat.mul_one]
  simp only [List.map_set]
  rfl
 rw [e2] at hS
 refine Ni ?_
 refine ⟨(zl6 trivial (zl6 trivial zqo)),?_⟩
 exact ⟨.inl rfl,⟨_,rfl,.refl _⟩,fun i hi=>(hS.old i hi).2,hS.get (n:=0) rfl⟩
theorem zjS {n:Nat} {a0:List WireFault} {r:Panel_} (hM:zhc n a0=some r):zav Try.prog 49 [.sl .no 3 (a0.map WireFault.cells)] (.agg [.i r.letters.c0,.i r.letters.c1,.i r.letters.c2,.i r.letters.c3,.i r.letters.c4,.i r.numbers.c0,.i r.numbers.c1,.i r.numbers.c2,.i r.numbers.c3,.i r.numbers.c4]):=by
 refine zaj mixed Try.func49 rfl (by decide) Try.ntmps49 (by simp) ?pure fun H0 g hf=>?_
 case pure=>exact .agg _ (zad (.v _) (zad (.v _) (zad (.v _) (zad (.v _) (zad (.v _) (zad (.v _) (zad (.v _) (zad (.v _) (zad (.v _) (zad (.v _) zaG))))))))))
 rw [zah]
 change wpA _ _ _ _ (Fr.of [(0,.sl .no 3 (a0.map WireFault.cells))]) H0 g
 have hS:=St.start hf
 refine Sq ?_
 refine Rg 1 ?_
 refine zcp hS (by decide) zkM (by omega) fun H hS=>?_
 refine Ni ?_
 refine Ws ?_
 refine Sq ?_
 refine Rg 1 ?_
 refine zcp hS (by decide) zkM (by omega) fun H hS=>?_
 refine Ni ?_
 refine Ws ?_
 refine zaC (J:=Int×Int×Int×Int×Int×Int×Int×Int×Int×Int) (fun j=>[(0,.sl .no 3 (a0.map WireFault.cells)),(2,.ptr (g+0) 0),(3,.ptr (g+1+0) 0)]) (fun j H' g'=>St (·<g) H0 [(g+1+0,.cells [.i j.1,.i j.2.1,.i j.2.2.1,.i j.2.2.2.1,.i j.2.2.2.2.1,.i j.2.2.2.2.2.1,.i j.2.2.2.2.2.2.1,.i j.2.2.2.2.2.2.2.1,.i j.2.2.2.2.2.2.2.2.1,.i j.2.2.2.2.2.2.2.2.2]),(g+0,.cells [.i 0,.i 0,.i 0,.i 0,.i 0,.i 0,.i 0,.i 0,.i 0,.i 0])] H' g'/\zew n a0 j.1 j.2.1 j.2.2.1 j.2.2.2.1 j.2.2.2.2.1 j.2.2.2.2.2.1 j.2.2.2.2.2.2.1 j.2.2.2.2.2.2.2.1 j.2.2.2.2.2.2.2.2.1 j.2.2.2.2.2.2.2.2.2=some r) ?_ ?_
 ·rintro ⟨v1,v2,v3,v4,v5,v6,v7,v8,v9,v10⟩ H g1 ⟨hS,hM⟩
  change wpA _ _ _ _ (Fr.of [(0,.sl .no 3 (a0.map WireFault.cells)),(2,.ptr (g+0) 0),(3,.ptr (g+1+0) 0)]) _ _
  replace hS:St (·<g) H0 [(g+1+0,.cells [.i v1,.i v2,.i v3,.i v4,.i v5,.i v6,.i v7,.i v8,.i v9,.i v10]),(g+0,.cells [.i 0,.i 0,.i 0,.i 0,.i 0,.i 0,.i 0,.i 0,.i 0,.i 0])] H g1:=hS
  replace hM:zew n a0 v1 v2 v3 v4 v5 v6 v7 v8 v9 v10=some r:=hM
  refine Sq ?_
  refine Rg 1 ?_
  refine Oa (.fn (.func 76) [] []) ?_
  refine Ni ?_
  refine Ws ?_
  refine zaC (J:=Int×Int×Int×Int×Int×Int×Int×Int×Int×Int) (fun j=>[(0,.sl .no 3 (a0.map WireFault.cells)),(2,.ptr (g+0) 0),(3,.ptr (g+1+0) 0)]) (fun j H' g'=>St (·<g) H0 [(g+1+0,.cells [.i j.1,.i j.2.1,.i j.2.2.1,.i j.2.2.2.1,.i j.2.2.2.2.1,.i j.2.2.2.2.2.1,.i j.2.2.2.2.2.2.1,.i j.2.2.2.2.2.2.2.1,.i j.2.2.2.2.2.2.2.2.1,.i j.2.2.2.2.2.2.2.2.2]),(g+0,.cells [.i 0,.i 0,.i 0,.i 0,.i 0,.i 0,.i 0,.i 0,.i 0,.i 0])] H' g'/\ze9 n a0 j.1 j.2.1 j.2.2.1 j.2.2.2.1 j.2.2.2.2.1 j.2.2.2.2.2.1 j.2.2.2.2.2.2.1 j.2.2.2.2.2.2.2.1 j.2.2.2.2.2.2.2.2.1 j.2.2.2.2.2.2.2.2.2=some r) ?_ ?_
  ·rintro ⟨v11,v12,v13,v14,v15,v16,v17,v18,v19,v20⟩ H g2 ⟨hS,hM⟩
   change wpA _ _ _ _ (Fr.of [(0,.sl .no 3 (a0.map WireFault.cells)),(2,.ptr (g+0) 0),(3,.ptr (g+1+0) 0)]) _ _
   replace hS:St (·<g) H0 [(g+1+0,.cells [.i v11,.i v12,.i v13,.i v14,.i v15,.i v16,.i v17,.i v18,.i v19,.i v20]),(g+0,.cells [.i 0,.i 0,.i 0,.i 0,.i 0,.i 0,.i 0,.i 0,.i 0,.i 0])] H g2:=hS
   replace hM:ze9 n a0 v11 v12 v13 v14 v15 v16 v17 v18 v19 v20=some r:=hM
   refine zaC (J:=Int×Int×Int×Int×Int×Int×Int×Int×Int×Int) (fun j=>[(2,.ptr (g+0) 0),(3,.ptr (g+1+0) 0)]) (fun j H' g'=>St (·<g) H0 [(g+1+0,.cells [.i j.1,.i j.2.1,.i j.2.2.1,.i j.2.2.2.1,.i j.2.2.2.2.1,.i j.2.2.2.2.2.1,.i j.2.2.2.2.2.2.1,.i j.2.2.2.2.2.2.2.1,.i j.2.2.2.2.2.2.2.2.1,.i j.2.2.2.2.2.2.2.2.2]),(g+0,.cells [.i 0,.i 0,.i 0,.i 0,.i 0,.i 0,.i 0,.i 0,.i 0,.i 0])] H' g'/\zgj j.1 j.2.1 j.2.2.1 j.2.2.2.1 j.2.2.2.2.1 j.2.2.2.2.2.1 j.2.2.2.2.2.2.1 j.2.2.2.2.2.2.2.1 j.2.2.2.2.2.2.2.2.1 j.2.2.2.2.2.2.2.2.2=some r) ?_ ?_
   ·rintro ⟨v21,v22,v23,v24,v25,v26,v27,v28,v29,v30⟩ H g3 ⟨hS,hM⟩
    change wpA _ _ _ _ (Fr.of [(2,.ptr (g+0) 0),(3,.ptr (g+1+0) 0)]) _ _
    replace hS:St (·<g) H0 [(g+1+0,.cells [.i v21,.i v22,.i v23,.i v24,.i v25,.i v26,.i v27,.i v28,.i v29,.i v30]),(g+0,.cells [.i 0,.i 0,.i 0,.i 0,.i 0,.i 0,.i 0,.i 0,.i 0,.i 0])] H g3:=hS
    replace hM:zgj v21 v22 v23 v24 v25 v26 v27 v28 v29 v30=some r:=hM
    refine Sq ?_
    refine Rg 2 ?_
    refine za3 (v:=.agg [.i v21,.i v22,.i v23,.i v24,.i v25,.i v26,.i v27,.i v28,.i v29,.i v30]) 0 hS (by decide) rfl rfl .no (pg zmj) ?_
    refine za1 (v:=.agg [.i v21,.i v22,.i v23,.i v24,.i v25,.i v26,.i v27,.i v28,.i v29,.i v30]) (ns:=[.i v21,.i v22,.i v23,.i v24,.i v25,.i v26,.i v27,.i v28,.i v29,.i v30]) (L':=[(g+1+0,.cells [.i v21,.i v22,.i v23,.i v24,.i v25,.i v26,.i v27,.i v28,.i v29,.i v30]),(g+0,.cells [.i v21,.i v22,.i v23,.i v24,.i v25,.i v26,.i v27,.i v28,.i v29,.i v30])]) 1 hS rfl rfl .no rfl rfl zoB nlb rfl fun H hS=>?_
    refine Ni ?_
    replace hS:=hS.keep (L':=[(g+0,.cells [.i v21,.i v22,.i v23,.i v24,.i v25,.i v26,.i v27,.i v28,.i v29,.i v30])]) [false,true] rfl
    refine Ws ?_
    refine zaA ?_
    refine zaJ (x:=.agg [.i v21,.i v22,.i v23,.i v24,.i v25,.i v26,.i v27,.i v28,.i v29,.i v30]) (f:=fun r=>.agg [.i r.letters.c0,.i r.letters.c1,.i r.letters.c2,.i r.letters.c3,.i r.letters.c4,.i r.numbers.c0,.i r.numbers.c1,.i r.numbers.c2,.i r.numbers.c3,.i r.numbers.c4]) (.inr rfl) ?_ (.refl _) (Option.some.inj hM) hS
    exact (zao (zeM (x:=.agg [.i v21,.i v22,.i v23,.i v24,.i v25,.i v26,.i v27,.i v28,.i v29,.i v30]) 0 hS rfl rfl (pg zmj)))
   ·refine Sq ?_
    refine Rg 3 ?_
    refine Om (.sl .no 3 (a0.map WireFault.cells)) ?_
    refine zcj (n:=a0.length) (by decide) rfl (List.length_map _) zfN ?_
    refine Om (.i 0) ?_
    refine Ni ?_
    refine Ws ?_
    refine zaq ?_
    refine zbr (V:=Int×Int×Int×Int×Int×Int×Int×Int×Int×Int×Int) (fun v=>[(2,.ptr (g+0) 0),(3,.ptr (g+1+0) 0),(43,.sl .no 3 (a0.map WireFault.cells)),(44,.i (a0.length:Int)),(45,.i v.1)]) (fun v m5 H' g'=>St (·<g) H0 [(g+1+0,.cells [.i v.2.1,.i v.2.2.1,.i v.2.2.2.1,.i v.2.2.2.2.1,.i v.2.2.2.2.2.1,.i v.2.2.2.2.2.2.1,.i v.2.2.2.2.2.2.2.1,.i v.2.2.2.2.2.2.2.2.1,.i v.2.2.2.2.2.2.2.2.2.1,.i v.2.2.2.2.2.2.2.2.2.2]),(g+0,.cells [.i 0,.i 0,.i 0,.i 0,.i 0,.i 0,.i 0,.i 0,.i 0,.i 0])] H' g'/\zcI a0 m5 v.1 v.2.1 v.2.2.1 v.2.2.2.1 v.2.2.2.2.1 v.2.2.2.2.2.1 v.2.2.2.2.2.2.1 v.2.2.2.2.2.2.2.1 v.2.2.2.2.2.2.2.2.1 v.2.2.2.2.2.2.2.2.2.1 v.2.2.2.2.2.2.2.2.2.2=some r) (n:=n) (0,v11,v12,v13,v14,v15,v16,v17,v18,v19,v20) (.k (.k (.k (.k (.k .nil))))) ⟨(hS.keep [true,true] rfl).up (by omega),hM⟩ ?_
    rintro ⟨v32,v33,v34,v35,v36,v37,v38,v39,v40,v41,v42⟩ m5 H g5 ⟨hS,hM⟩
    obtain _ | m5:=m5
    ·exact nomatch (show none=some _ from hM)
    change wpA _ _ _ _ (Fr.of [(2,.ptr (g+0) 0),(3,.ptr (g+1+0) 0),(43,.sl .no 3 (a0.map WireFault.cells)),(44,.i (a0.length:Int)),(45,.i v32)]) _ _
    replace hS:St (·<g) H0 [(g+1+0,.cells [.i v33,.i v34,.i v35,.i v36,.i v37,.i v38,.i v39,.i v40,.i v41,.i v42]),(g+0,.cells [.i 0,.i 0,.i 0,.i 0,.i 0,.i 0,.i 0,.i 0,.i 0,.i 0])] H g5:=hS
    replace hM:ze8 a0 (zcI a0 m5) v32 v33 v34 v35 v36 v37 v38 v39 v40 v41 v42=some r:=hM
    refine Sq ?_
    refine Rg 1 ?_
    refine Oi (.b (decide (v32<(a0.length:Int)))) ?_
    refine Ni ?_
    refine Ws ?_
    refine Sq ?_
    rcases bft (decide (v32<(a0.length:Int))) with hb43 | hb43
    ·replace hM:=ifT hM hb43
     refine Ct hb43 ?_
     refine zar ?_
     refine Ws ?_
     refine zaC (J:=Int×Int×Int×Int×Int×Int×Int×Int×Int×Int) (fun j=>[(2,.ptr (g+0) 0),(3,.ptr (g+1+0) 0),(43,.sl .no 3 (a0.map WireFault.cells)),(44,.i (a0.length:Int)),(45,.i v32)]) (fun j H' g'=>St (·<g) H0 [(g+1+0,.cells [.i j.1,.i j.2.1,.i j.2.2.1,.i j.2.2.2.1,.i j.2.2.2.2.1,.i j.2.2.2.2.2.1,.i j.2.2.2.2.2.2.1,.i j.2.2.2.2.2.2.2.1,.i j.2.2.2.2.2.2.2.2.1,.i j.2.2.2.2.2.2.2.2.2]),(g+0,.cells [.i 0,.i 0,.i 0,.i 0,.i 0,.i 0,.i 0,.i 0,.i 0,.i 0])] H' g'/\zdc (zcI a0 m5) v32 j.1 j.2.1 j.2.2.1 j.2.2.2.1 j.2.2.2.2.1 j.2.2.2.2.2.1 j.2.2.2.2.2.2.1 j.2.2.2.2.2.2.2.1 j.2.2.2.2.2.2.2.2.1 j.2.2.2.2.2.2.2.2.2=some r) ?_ ?_
     ·rintro ⟨v44,v45,v46,v47,v48,v49,v50,v51,v52,v53⟩ H g6 ⟨hS,hM⟩
      change wpA _ _ _ _ (Fr.of [(2,.ptr (g+0) 0),(3,.ptr (g+1+0) 0),(43,.sl .no 3 (a0.map WireFault.cells)),(44,.i (a0.length:Int)),(45,.i v32)]) _ _
      replace hS:St (·<g) H0 [(g+1+0,.cells [.i v44,.i v45,.i v46,.i v47,.i v48,.i v49,.i v50,.i v51,.i v52,.i v53]),(g+0,.cells [.i 0,.i 0,.i 0,.i 0,.i 0,.i 0,.i 0,.i 0,.i 0,.i 0])] H g6:=hS
      replace hM:zdc (zcI a0 m5) v32 v44 v45 v46 v47 v48 v49 v50 v51 v52 v53=some r:=hM
      refine Rg 2 ?_
      refine Oi (.i (w64 (v32+1))) ?_
      refine Om (.i (w64 (v32+1))) ?_
      refine Ni ?_
      exact zaW (w64 (v32+1),v44,v45,v46,v47,v48,v49,v50,v51,v52,v53) (Nat.lt_succ_self _) (.k (.k (.k (.k (.k .nil))))) ⟨(hS.keep [true,true] rfl).up (by omega),hM⟩
     ·refine zaq ?_
      refine Sq ?_
      refine Rg 4 ?_
      obtain ⟨x54,hx54,hM⟩:=zai hM
      refine zaU (xs:=a0) (f:=WireFault.cells) (z:=v32) (u:=x54) (by decide) rfl rfl zca hx54 ?_
      refine Olg (.agg (WireFault.cells x54)) zcb ?_
      refine zcp hS (by decide) zdQ (by omega) fun H hS=>?_
      refine za1 (v:=.agg (WireFault.cells x54)) (ns:=(WireFault.cells x54)) (L':=[(g5+1+2,.cells (WireFault.cells x54)),(g+1+0,.cells [.i v33,.i v34,.i v35,.i v36,.i v37,.i v38,.i v39,.i v40,.i v41,.i v42]),(g+0,.cells [.i 0,.i 0,.i 0,.i 0,.i 0,.i 0,.i 0,.i 0,.i 0,.i 0])]) 0 hS rfl rfl .no rfl rfl zj8 nlb rfl fun H hS=>?_
      refine Ni ?_
      refine zaZ (L':=[(g+1+0,.cells [.i v33,.i v34,.i v35,.i v36,.i v37,.i v38,.i v39,.i v40,.i v41,.i v42]),(g+0,.cells [.i 0,.i 0,.i 0,.i 0,.i 0,.i 0,.i 0,.i 0,.i 0,.i 0])]) 0 9 hS rfl rfl rfl fun H hS=>?_
      refine Ws ?_
      refine Sq ?_
      refine Rg 2 ?_
      refine Of ((WireFault.cells x54)) zem ?_
      refine Olp (.i x54.Kind) zab zaf ?_
      refine Ni ?_
      refine Ws ?_
      refine zaq ?_
      refine Sq ?_
      refine Rg 2 ?_
      refine Oi (.b (x54.Kind==1)) ?_
      refine Oa (.b (x54.Kind==1)) ?_
      refine Ni ?_
      refine Ws ?_
      rcases bft (x54.Kind==1) with hb55 | hb55
      ·replace hM:=ifT hM hb55
       refine Ct hb55 ?_
       refine Rg 5 ?_
       refine Of ((WireFault.cells x54)) zcF ?_
       refine Olp (.i x54.A) zab zaf ?_
       refine zaO (by decide) zi6 rfl ?_
       obtain ⟨x56,hx56,hM⟩:=zai hM
       refine zij (z:=x54.A) (by decide) rfl rfl zg1 (ziu hx56) ?_
       obtain ⟨l57,hl57,hM⟩:=zai hM
       refine zj6 (xs:=([v33,v34,v35,v36,v37]:List Int)) (u:=l57) (z:=x54.A) (v:=(-1)) (off:=0+0) (cs':=[.i (l57.getD 0 0),.i (l57.getD 1 0),.i (l57.getD 2 0),.i (l57.getD 3 0),.i (l57.getD 4 0),.i v38,.i v39,.i v40,.i v41,.i v42]) (L':=[(g+1+0,.cells [.i (l57.getD 0 0),.i (l57.getD 1 0),.i (l57.getD 2 0),.i (l57.getD 3 0),.i (l57.getD 4 0),.i v38,.i v39,.i v40,.i v41,.i v42]),(g+0,.cells [.i 0,.i 0,.i 0,.i 0,.i 0,.i 0,.i 0,.i 0,.i 0,.i 0])]) 0 hS rfl rfl .no rfl rfl hl57 zf0 rfl rfl fun H hS=>?_
       refine Ni ?_
       refine zae ?_
       refine zae ?_
       exact zag ((l57.getD 0 0),(l57.getD 1 0),(l57.getD 2 0),(l57.getD 3 0),(l57.getD 4 0),v38,v39,v40,v41,v42) (.k (.k (.k (.k (.k .nil))))) ⟨(hS.keep [true,true] rfl).up (by omega),hM⟩
      ·replace hM:=ifF hM hb55
       refine Cf hb55 ?_
       refine Sq ?_
       refine Rg 2 ?_
       refine Oi (.b (x54.Kind==2)) ?_
       refine Oa (.b (x54.Kind==2)) ?_
       refine Ni ?_
       refine Ws ?_
       rcases bft (x54.Kind==2) with hb58 | hb58
       ·replace hM:=ifT hM hb58
        refine Ct hb58 ?_
        refine Rg 5 ?_
        refine Of ((WireFault.cells x54)) zcF ?_
        refine Olp (.i x54.A) zab zaf ?_
        refine zaO (by decide) zi7 rfl ?_
        obtain ⟨x59,hx59,hM⟩:=zai hM
        refine zij (z:=x54.A) (by decide) rfl rfl zg1 (ziu hx59) ?_
        obtain ⟨l60,hl60,hM⟩:=zai hM
        refine zj6 (xs:=([v38,v39,v40,v41,v42]:List Int)) (u:=l60) (z:=x54.A) (v:=(-1)) (off:=0+5) (cs':=[.i v33,.i v34,.i v35,.i v36,.i v37,.i (l60.getD 0 0),.i (l60.getD 1 0),.i (l60.getD 2 0),.i (l60.getD 3 0),.i (l60.getD 4 0)]) (L':=[(g+1+0,.cells [.i v33,.i v34,.i v35,.i v36,.i v37,.i (l60.getD 0 0),.i (l60.getD 1 0),.i (l60.getD 2 0),.i (l60.getD 3 0),.i (l60.getD 4 0)]),(g+0,.cells [.i 0,.i 0,.i 0,.i 0,.i 0,.i 0,.i 0,.i 0,.i 0,.i 0])]) 0 hS rfl rfl .no rfl rfl hl60 zf0 rfl rfl fun H hS=>?_
        refine Ni ?_
        refine zae ?_
        refine zae ?_
        exact zag (v33,v34,v35,v36,v37,(l60.getD 0 0),(l60.getD 1 0),(l60.getD 2 0),(l60.getD 3 0),(l60.getD 4 0)) (.k (.k (.k (.k (.k .nil))))) ⟨(hS.keep [true,true] rfl).up (by omega),hM⟩
       ·replace hM:=ifF hM hb58
        refine Cf hb58 ?_
        refine zar ?_
        refine zae ?_
        refine zae ?_
        exact zag (v33,v34,v35,v36,v37,v38,v39,v40,v41,v42) (.k (.k (.k (.k (.k .nil))))) ⟨(hS.keep [true,true] rfl).up (by omega),hM⟩
    ·replace hM:=ifF hM hb43
     refine Cf hb43 ?_
     refine zbl ?_
     refine zap ?_
     refine zan ?_
     refine zat ?_
     exact zag (v33,v34,v35,v36,v37,v38,v39,v40,v41,v42) (.k (.k .nil)) ⟨(hS.keep [true,true] rfl).up (by omega),hM⟩
  ·refine Sq ?_
   refine Rg 3 ?_
   refine Om (.sl .no 3 (a0.map WireFault.cells)) ?_
   refine zcj (n:=a0.length) (by decide) rfl (List.length_map _) zfN ?_
   refine Om (.i 0) ?_
   refine Ni ?_
   refine Ws ?_
   refine zaq ?_
   refine zbr (V:=Int×Int×Int×Int×Int×Int×Int×Int×Int×Int×Int) (fun v=>[(0,.sl .no 3 (a0.map WireFault.cells)),(2,.ptr (g+0) 0),(3,.ptr (g+1+0) 0),(5,.fn (.func 76) [] []),(22,.sl .no 3 (a0.map WireFault.cells)),(23,.i (a0.length:Int)),(24,.i v.1)]) (fun v m8 H' g'=>St (·<g) H0 [(g+1+0,.cells [.i v.2.1,.i v.2.2.1,.i v.2.2.2.1,.i v.2.2.2.2.1,.i v.2.2.2.2.2.1,.i v.2.2.2.2.2.2.1,.i v.2.2.2.2.2.2.2.1,.i v.2.2.2.2.2.2.2.2.1,.i v.2.2.2.2.2.2.2.2.2.1,.i v.2.2.2.2.2.2.2.2.2.2]),(g+0,.cells [.i 0,.i 0,.i 0,.i 0,.i 0,.i 0,.i 0,.i 0,.i 0,.i 0])] H' g'/\zcJ n a0 m8 v.1 v.2.1 v.2.2.1 v.2.2.2.1 v.2.2.2.2.1 v.2.2.2.2.2.1 v.2.2.2.2.2.2.1 v.2.2.2.2.2.2.2.1 v.2.2.2.2.2.2.2.2.1 v.2.2.2.2.2.2.2.2.2.1 v.2.2.2.2.2.2.2.2.2.2=some r) (n:=n) (0,v1,v2,v3,v4,v5,v6,v7,v8,v9,v10) (.k (.k (.k (.k (.k (.k (.k .nil))))))) ⟨(hS.keep [true,true] rfl).up (by omega),hM⟩ ?_
   rintro ⟨v62,v63,v64,v65,v66,v67,v68,v69,v70,v71,v72⟩ m8 H g8 ⟨hS,hM⟩
   obtain _ | m8:=m8
   ·exact nomatch (show none=some _ from hM)
   change wpA _ _ _ _ (Fr.of [(0,.sl .no 3 (a0.map WireFault.cells)),(2,.ptr (g+0) 0),(3,.ptr (g+1+0) 0),(5,.fn (.func 76) [] []),(22,.sl .no 3 (a0.map WireFault.cells)),(23,.i (a0.length:Int)),(24,.i v62)]) _ _
   replace hS:St (·<g) H0 [(g+1+0,.cells [.i v63,.i v64,.i v65,.i v66,.i v67,.i v68,.i v69,.i v70,.i v71,.i v72]),(g+0,.cells [.i 0,.i 0,.i 0,.i 0,.i 0,.i 0,.i 0,.i 0,.i 0,.i 0])] H g8:=hS
   replace hM:zfa n a0 (zcJ n a0 m8) v62 v63 v64 v65 v66 v67 v68 v69 v70 v71 v72=some r:=hM
   refine Sq ?_
   refine Rg 1 ?_
   refine Oi (.b (decide (v62<(a0.length:Int)))) ?_
   refine Ni ?_
   refine Ws ?_
   refine Sq ?_
   rcases bft (decide (v62<(a0.length:Int))) with hb73 | hb73
   ·replace hM:=ifT hM hb73
    refine Ct hb73 ?_
    refine zar ?_
    refine Ws ?_
    refine zaC (J:=Int×Int×Int×Int×Int×Int×Int×Int×Int×Int) (fun j=>[(0,.sl .no 3 (a0.map WireFault.cells)),(2,.ptr (g+0) 0),(3,.ptr (g+1+0) 0),(5,.fn (.func 76) [] []),(22,.sl .no 3 (a0.map WireFault.cells)),(23,.i (a0.length:Int)),(24,.i v62)]) (fun j H' g'=>St (·<g) H0 [(g+1+0,.cells [.i j.1,.i j.2.1,.i j.2.2.1,.i j.2.2.2.1,.i j.2.2.2.2.1,.i j.2.2.2.2.2.1,.i j.2.2.2.2.2.2.1,.i j.2.2.2.2.2.2.2.1,.i j.2.2.2.2.2.2.2.2.1,.i j.2.2.2.2.2.2.2.2.2]),(g+0,.cells [.i 0,.i 0,.i 0,.i 0,.i 0,.i 0,.i 0,.i 0,.i 0,.i 0])] H' g'/\zdd (zcJ n a0 m8) v62 j.1 j.2.1 j.2.2.1 j.2.2.2.1 j.2.2.2.2.1 j.2.2.2.2.2.1 j.2.2.2.2.2.2.1 j.2.2.2.2.2.2.2.1 j.2.2.2.2.2.2.2.2.1 j.2.2.2.2.2.2.2.2.2=some r) ?_ ?_
    ·rintro ⟨v74,v75,v76,v77,v78,v79,v80,v81,v82,v83⟩ H g9 ⟨hS,hM⟩
     change wpA _ _ _ _ (Fr.of [(0,.sl .no 3 (a0.map WireFault.cells)),(2,.ptr (g+0) 0),(3,.ptr (g+1+0) 0),(5,.fn (.func 76) [] []),(22,.sl .no 3 (a0.map WireFault.cells)),(23,.i (a0.length:Int)),(24,.i v62)]) _ _
     replace hS:St (·<g) H0 [(g+1+0,.cells [.i v74,.i v75,.i v76,.i v77,.i v78,.i v79,.i v80,.i v81,.i v82,.i v83]),(g+0,.cells [.i 0,.i 0,.i 0,.i 0,.i 0,.i 0,.i 0,.i 0,.i 0,.i 0])] H g9:=hS
     replace hM:zdd (zcJ n a0 m8) v62 v74 v75 v76 v77 v78 v79 v80 v81 v82 v83=some r:=hM
     refine Rg 2 ?_
     refine Oi (.i (w64 (v62+1))) ?_
     refine Om (.i (w64 (v62+1))) ?_
     refine Ni ?_
     exact zaW (w64 (v62+1),v74,v75,v76,v77,v78,v79,v80,v81,v82,v83) (Nat.lt_succ_self _) (.k (.k (.k (.k (.k (.k (.k .nil))))))) ⟨(hS.keep [true,true] rfl).up (by omega),hM⟩
    ·refine zaq ?_
     refine Sq ?_
     refine Rg 4 ?_
     obtain ⟨x84,hx84,hM⟩:=zai hM
     refine zaU (xs:=a0) (f:=WireFault.cells) (z:=v62) (u:=x84) (by decide) rfl rfl zca hx84 ?_
     refine Olg (.agg (WireFault.cells x84)) zcb ?_
     refine zcp hS (by decide) zdQ (by omega) fun H hS=>?_
     refine za1 (v:=.agg (WireFault.cells x84)) (ns:=(WireFault.cells x84)) (L':=[(g8+1+2,.cells (WireFault.cells x84)),(g+1+0,.cells [.i v63,.i v64,.i v65,.i v66,.i v67,.i v68,.i v69,.i v70,.i v71,.i v72]),(g+0,.cells [.i 0,.i 0,.i 0,.i 0,.i 0,.i 0,.i 0,.i 0,.i 0,.i 0])]) 0 hS rfl rfl .no rfl rfl zj8 nlb rfl fun H hS=>?_
     refine Ni ?_
     refine zaZ (L':=[(g+1+0,.cells [.i v63,.i v64,.i v65,.i v66,.i v67,.i v68,.i v69,.i v70,.i v71,.i v72]),(g+0,.cells [.i 0,.i 0,.i 0,.i 0,.i 0,.i 0,.i 0,.i 0,.i 0,.i 0])]) 0 7 hS rfl rfl rfl fun H hS=>?_
     refine Ws ?_
     refine Sq ?_
     refine Rg 2 ?_
     refine Of ((WireFault.cells x84)) zem ?_
     refine Olp (.i x84.Kind) zab zaf ?_
     refine Ni ?_
     refine Ws ?_
     refine zaq ?_
     refine Sq ?_
     refine Rg 2 ?_
     refine Oi (.b (x84.Kind==3)) ?_
     refine Oa (.b (x84.Kind==3)) ?_
     refine Ni ?_
     refine Ws ?_
     rcases bft (x84.Kind==3) with hb85 | hb85
     ·replace hM:=ifT hM hb85
      refine Ct hb85 ?_
      refine Rg 4 ?_
      refine Om (.fn (.func 76) [] []) ?_
      refine zaO (by decide) zi6 rfl ?_
      refine Olg (.agg (WireFault.cells x84)) zcb ?_
      obtain ⟨l86,hl86,hM⟩:=zai hM
      refine zt0 (bs:=[.ptr (g+1+0) (0+0),.agg (WireFault.cells x84)]) (L':=[(g+1+0,.cells [.i (l86.getD 0 0),.i (l86.getD 1 0),.i (l86.getD 2 0),.i (l86.getD 3 0),.i (l86.getD 4 0),.i (l86.getD 5 0),.i (l86.getD 6 0),.i (l86.getD 7 0),.i (l86.getD 8 0),.i (l86.getD 9 0)]),(g+0,.cells [.i 0,.i 0,.i 0,.i 0,.i 0,.i 0,.i 0,.i 0,.i 0,.i 0])]) 0 hS (by decide) rfl rfl rfl zsv (zif (p:=g+1+0) hl86) rfl fun H hS=>?_
      refine Ni ?_
      refine zae ?_
      refine zae ?_
      exact zag ((l86.getD 0 0),(l86.getD 1 0),(l86.getD 2 0),(l86.getD 3 0),(l86.getD 4 0),(l86.getD 5 0),(l86.getD 6 0),(l86.getD 7 0),(l86.getD 8 0),(l86.getD 9 0)) (.k (.k (.k (.k (.k (.k (.k .nil))))))) ⟨(hS.keep [true,true] rfl).up (by omega),hM⟩
     ·replace hM:=ifF hM hb85
      refine Cf hb85 ?_
      refine Sq ?_
      refine Rg 2 ?_
      refine Oi (.b (x84.Kind==4)) ?_
      refine Oa (.b (x84.Kind==4)) ?_
      refine Ni ?_
      refine Ws ?_
      rcases bft (x84.Kind==4) with hb87 | hb87
      ·replace hM:=ifT hM hb87
       refine Ct hb87 ?_
       refine Rg 4 ?_
       refine Om (.fn (.func 76) [] []) ?_
       refine zaO (by decide) zi7 rfl ?_
       refine Olg (.agg (WireFault.cells x84)) zcb ?_
       obtain ⟨l88,hl88,hM⟩:=zai hM
       refine zt0 (bs:=[.ptr (g+1+0) (0+5),.agg (WireFault.cells x84)]) (L':=[(g+1+0,.cells [.i (l88.getD 0 0),.i (l88.getD 1 0),.i (l88.getD 2 0),.i (l88.getD 3 0),.i (l88.getD 4 0),.i (l88.getD 5 0),.i (l88.getD 6 0),.i (l88.getD 7 0),.i (l88.getD 8 0),.i (l88.getD 9 0)]),(g+0,.cells [.i 0,.i 0,.i 0,.i 0,.i 0,.i 0,.i 0,.i 0,.i 0,.i 0])]) 0 hS (by decide) rfl rfl rfl zsv (zif (p:=g+1+0) hl88) rfl fun H hS=>?_
       refine Ni ?_
       refine zae ?_
       refine zae ?_
       exact zag ((l88.getD 0 0),(l88.getD 1 0),(l88.getD 2 0),(l88.getD 3 0),(l88.getD 4 0),(l88.getD 5 0),(l88.getD 6 0),(l88.getD 7 0),(l88.getD 8 0),(l88.getD 9 0)) (.k (.k (.k (.k (.k (.k (.k .nil))))))) ⟨(hS.keep [true,true] rfl).up (by omega),hM⟩
      ·replace hM:=ifF hM hb87
       refine Cf hb87 ?_
       refine zar ?_
       refine zae ?_
       refine zae ?_
       exact zag (v63,v64,v65,v66,v67,v68,v69,v70,v71,v72) (.k (.k (.k (.k (.k (.k (.k .nil))))))) ⟨(hS.keep [true,true] rfl).up (by omega),hM⟩
   ·replace hM:=ifF hM hb73
    refine Cf hb73 ?_
    refine zbl ?_
    refine zap ?_
    refine zan ?_
    refine zat ?_
    exact zag (v63,v64,v65,v66,v67,v68,v69,v70,v71,v72) (.k (.k (.k .nil))) ⟨(hS.keep [true,true] rfl).up (by omega),hM⟩
 ·refine Sq ?_
  refine Rg 1 ?_
  refine Om (.i 0) ?_
  refine Ni ?_
  refine Ws ?_
  refine zaq ?_
  refine zbr (V:=Int×Int×Int×Int×Int×Int×Int×Int×Int×Int×Int) (fun v=>[(0,.sl .no 3 (a0.map WireFault.cells)),(2,.ptr (g+0) 0),(3,.ptr (g+1+0) 0),(10,.i v.1)]) (fun v m11 H' g'=>St (·<g) H0 [(g+1+0,.cells [.i v.2.1,.i v.2.2.1,.i v.2.2.2.1,.i v.2.2.2.2.1,.i v.2.2.2.2.2.1,.i v.2.2.2.2.2.2.1,.i v.2.2.2.2.2.2.2.1,.i v.2.2.2.2.2.2.2.2.1,.i v.2.2.2.2.2.2.2.2.2.1,.i v.2.2.2.2.2.2.2.2.2.2]),(g+0,.cells [.i 0,.i 0,.i 0,.i 0,.i 0,.i 0,.i 0,.i 0,.i 0,.i 0])] H' g'/\zgk n a0 m11 v.1 v.2.1 v.2.2.1 v.2.2.2.1 v.2.2.2.2.1 v.2.2.2.2.2.1 v.2.2.2.2.2.2.1 v.2.2.2.2.2.2.2.1 v.2.2.2.2.2.2.2.2.1 v.2.2.2.2.2.2.2.2.2.1 v.2.2.2.2.2.2.2.2.2.2=some r) (n:=n) (0,0,0,0,0,0,0,0,0,0,0) (.k (.k (.k (.k .nil)))) ⟨(hS.keep [true,true] rfl).up (by omega),hM⟩ ?_
  rintro ⟨v90,v91,v92,v93,v94,v95,v96,v97,v98,v99,v100⟩ m11 H g11 ⟨hS,hM⟩
  obtain _ | m11:=m11
  ·exact nomatch (show none=some _ from hM)
  change wpA _ _ _ _ (Fr.of [(0,.sl .no 3 (a0.map WireFault.cells)),(2,.ptr (g+0) 0),(3,.ptr (g+1+0) 0),(10,.i v90)]) _ _
  replace hS:St (·<g) H0 [(g+1+0,.cells [.i v91,.i v92,.i v93,.i v94,.i v95,.i v96,.i v97,.i v98,.i v99,.i v100]),(g+0,.cells [.i 0,.i 0,.i 0,.i 0,.i 0,.i 0,.i 0,.i 0,.i 0,.i 0])] H g11:=hS
  replace hM:zh5 n a0 (zgk n a0 m11) v90 v91 v92 v93 v94 v95 v96 v97 v98 v99 v100=some r:=hM
  refine Sq ?_
  refine Rg 1 ?_
  refine Oi (.b (decide (v90<5))) ?_
  refine Ni ?_
  refine Ws ?_
  refine Sq ?_
  rcases bft (decide (v90<5)) with hb101 | hb101
  ·replace hM:=ifT hM hb101
   refine Ct hb101 ?_
   refine zar ?_
   refine Ws ?_
   refine Sq ?_
   refine zaq ?_
   refine Sq ?_
   refine Rg 2 ?_
   refine Om (.i v90) ?_
   refine Oa (.i v90) ?_
   refine Ni ?_
   refine Ws ?_
   refine Rg 10 ?_
   refine Om (.i v90) ?_
   refine Om (.i v90) ?_
   refine Om (.i v90) ?_
   refine Om (.i v90) ?_
   refine zaO (by decide) zi6 rfl ?_
   obtain ⟨x102,hx102,hM⟩:=zai hM
   refine zij (z:=v90) (by decide) rfl rfl zg1 (ziu hx102) ?_
   obtain ⟨l103,hl103,hM⟩:=zai hM
   refine zj6 (xs:=([v91,v92,v93,v94,v95]:List Int)) (u:=l103) (z:=v90) (v:=v90) (off:=0+0) (cs':=[.i (l103.getD 0 0),.i (l103.getD 1 0),.i (l103.getD 2 0),.i (l103.getD 3 0),.i (l103.getD 4 0),.i v96,.i v97,.i v98,.i v99,.i v100]) (L':=[(g+1+0,.cells [.i (l103.getD 0 0),.i (l103.getD 1 0),.i (l103.getD 2 0),.i (l103.getD 3 0),.i (l103.getD 4 0),.i v96,.i v97,.i v98,.i v99,.i v100]),(g+0,.cells [.i 0,.i 0,.i 0,.i 0,.i 0,.i 0,.i 0,.i 0,.i 0,.i 0])]) 0 hS rfl rfl .no rfl rfl hl103 zf0 rfl rfl fun H hS=>?_
   refine zaO (by decide) zi7 rfl ?_
   obtain ⟨x104,hx104,hM⟩:=zai hM
   refine zij (z:=v90) (by decide) rfl rfl zg1 (ziu hx104) ?_
   obtain ⟨l105,hl105,hM⟩:=zai hM
   refine zj6 (xs:=([v96,v97,v98,v99,v100]:List Int)) (u:=l105) (z:=v90) (v:=v90) (off:=0+5) (cs':=[.i (l103.getD 0 0),.i (l103.getD 1 0),.i (l103.getD 2 0),.i (l103.getD 3 0),.i (l103.getD 4 0),.i (l105.getD 0 0),.i (l105.getD 1 0),.i (l105.getD 2 0),.i (l105.getD 3 0),.i (l105.getD 4 0)]) (L':=[(g+1+0,.cells [.i (l103.getD 0 0),.i (l103.getD 1 0),.i (l103.getD 2 0),.i (l103.getD 3 0),.i (l103.getD 4 0),.i (l105.getD 0 0),.i (l105.getD 1 0),.i (l105.getD 2 0),.i (l105.getD 3 0),.i (l105.getD 4 0)]),(g+0,.cells [.i 0,.i 0,.i 0,.i 0,.i 0,.i 0,.i 0,.i 0,.i 0,.i 0])]) 0 hS rfl rfl .no rfl rfl hl105 zf0 rfl rfl fun H hS=>?_
   refine Ni ?_
   refine zae ?_
   refine Ws ?_
   refine Rg 2 ?_
   refine Oi (.i (w64 (v90+1))) ?_
   refine Om (.i (w64 (v90+1))) ?_
   refine Ni ?_
   exact zaW (w64 (v90+1),(l103.getD 0 0),(l103.getD 1 0),(l103.getD 2 0),(l103.getD 3 0),(l103.getD 4 0),(l105.getD 0 0),(l105.getD 1 0),(l105.getD 2 0),(l105.getD 3 0),(l105.getD 4 0)) (Nat.lt_succ_self _) (.k (.k (.k (.k .nil)))) ⟨(hS.keep [true,true] rfl).up (by omega),hM⟩
  ·replace hM:=ifF hM hb101
   refine Cf hb101 ?_
   refine zbl ?_
   refine zap ?_
   refine zan ?_
   refine zat ?_
   exact zag (v91,v92,v93,v94,v95,v96,v97,v98,v99,v100) (.k (.k (.k .nil))) ⟨(hS.keep [true,true] rfl).up (by omega),hM⟩
theorem zgc {a0:Option Wiring_} {a1:Panel_} {a2:Int} {a3:Int} {r:Int} (hM:zde a0 a1 a2 a3=some r):zav Try.prog 48 [pA Wiring_.cells a0,.agg (Panel_.cells a1),.i a2,.i a3] (.i r):=by
 refine zaj mixed Try.func48 rfl (by decide) Try.ntmps48 (by simp) ?pure fun H0 g hf=>?_
 case pure=>exact .v _
 rw [zah]
 change wpA _ _ _ _ (Fr.of [(0,pA Wiring_.cells a0),(1,.agg (Panel_.cells a1)),(2,.i a2),(3,.i a3)]) H0 g
 have hS:=St.start hf
 refine Sq ?_
 refine Rg 2 ?_
 refine zbX (v:=.agg (Panel_.cells a1)) (cs:=(Panel_.cells a1)) hS (by decide) rfl rfl (by omega) fun H hS=>?_
 refine Oa (.i 0) ?_
 refine Ni ?_
 refine zaZ (L':=[]) 0 5 hS rfl rfl rfl fun H hS=>?_
 refine Ws ?_
 refine Sq ?_
 have hS0:=hS
 refine zd1 (n:=10) rfl (by kernel_rfl) ?_
 refine Om (.i a2) ?_
 refine Of ((Panel_.cells a1)) zi6 ?_
 obtain ⟨x1,hx1,hM⟩:=zai hM
 refine zmW (cs:=(Panel_.cells a1)) (z:=a2) (by decide) rfl rfl zg1 (ziu hx1) ?_
 refine zl2 (v:=.i x1) (by decide) rfl (znT (xs:=([a1.letters.c0,a1.letters.c1,a1.letters.c2,a1.letters.c3,a1.letters.c4]:List Int)) zab zaf rfl hx1) ?_
 refine Om (.i a3) ?_
 refine Of ((Panel_.cells a1)) zi7 ?_
 obtain ⟨x2,hx2,hM⟩:=zai hM
 refine zmW (cs:=(Keys_.cells a1.numbers)) (z:=a3) (by decide) rfl rfl zg1 (ziu hx2) ?_
 refine zl2 (v:=.i x2) (by decide) rfl (znT (xs:=([a1.numbers.c0,a1.numbers.c1,a1.numbers.c2,a1.numbers.c3,a1.numbers.c4]:List Int)) zab zaf rfl hx2) ?_
 refine Oa (.i x1) ?_
 refine Oa (.i x2) ?_
 refine Ni ?_
 refine Ws ?_
 refine Sq ?_
 refine zaC (J:=Bool) (fun j=>[(0,pA Wiring_.cells a0),(9,.i x1),(10,.i x2),(24,.b j)]) (fun j H' g'=>St (·<g) H0 [] H' g'/\zct a0 x1 x2 j=some r) ?_ ?_
 ·rintro v3 H g1 ⟨hS,hM⟩
  change wpA _ _ _ _ (Fr.of [(0,pA Wiring_.cells a0),(9,.i x1),(10,.i x2),(24,.b v3)]) _ _
  replace hS:St (·<g) H0 [] H g1:=hS
  replace hM:zct a0 x1 x2 v3=some r:=hM
  rcases bft v3 with hb4 | hb4
  ·replace hM:=ifT hM hb4
   refine Ct hb4 ?_
   refine Sq ?_
   refine Rg 1 ?_
   refine Oa (.i (-1)) ?_
   refine Ni ?_
   refine Ws ?_
   refine zaA ?_
   refine zam ?_
   refine zaJ (x:=.i (-1)) (f:=fun r=>.i r) (.inr rfl) ?_ (.refl _) (Option.some.inj hM) hS
   exact (zao (zac (x:=.i (-1)) rfl))
  ·replace hM:=ifF hM hb4
   refine Cf hb4 ?_
   refine zar ?_
   refine Ws ?_
   refine Sq ?_
   refine Rg 10 ?_
   refine Om (.i x1) ?_
   refine Om (pA Wiring_.cells a0) ?_
   obtain ⟨x5,hx5,hM⟩:=zai hM
   refine zsA (f:=Wiring_.cells) (p:=a0) (u:=x5) (by decide) rfl hx5 ?_
   refine Of ((Wiring_.cells x5)) zpq ?_
   refine Of ((Wiring_.cells x5)) zfp ?_
   refine Olp (.i x5.Wire.Numbers) zab zaf ?_
   refine Oi (.i (w64 (x1*x5.Wire.Numbers))) ?_
   refine Om (.i x2) ?_
   refine Oi (.i (w64 ((w64 (x1*x5.Wire.Numbers))+x2))) ?_
   refine Oa (.i (w64 ((w64 (x1*x5.Wire.Numbers))+x2))) ?_
   refine Ni ?_
   refine Ws ?_
   refine zaA ?_
   refine zaJ (x:=.i (w64 ((w64 (x1*x5.Wire.Numbers))+x2))) (f:=fun r=>.i r) (.inr rfl) ?_ (.refl _) (Option.some.inj hM) hS
   exact (zao (zac (x:=.i (w64 ((w64 (x1*x5.Wire.Numbers))+x2))) rfl))
 ·refine Rg 6 ?_
  refine Om (.i x1) ?_
  refine Oi (.b (decide (x1<0))) ?_
  refine Om (.b (decide (x1<0))) ?_
  rcases bft (decide (x1<0)) with hb6 | hb6
  ·replace hM:=ifT hM hb6
   refine On (want:=false) hb6 ?_
   refine On (want:=false) hb6 ?_
   refine Pt (.b true) hb6 ?_
   refine Ni ?_
   exact zag true (.k (.k (.k (.k .nil)))) ⟨(hS.keep [] rfl).up (by omega),hM⟩
  ·replace hM:=ifF hM hb6
   refine Oy (want:=false) hb6 ?_
   refine Om (.i x2) ?_
   refine Oy (want:=false) hb6 ?_
   refine Oi (.b (decide (x2<0))) ?_
   refine Pf (.b (decide (x2<0))) hb6 ?_
   refine Ni ?_
   exact zag (decide (x2<0)) (.k (.k (.k (.k .nil)))) ⟨(hS.keep [] rfl).up (by omega),hM⟩
theorem zgT {a0:WirePress} {a1:Option Wiring_} {a2:Panel_} {r:Bool} (hM:zbT a0 a1 a2=some r):zav Try.prog 75 [.agg (WirePress.cells a0),.ep [pA Wiring_.cells a1],.ep (Panel_.cells a2)] (.b r):=by
 refine zaj mixed Try.func75 rfl (by decide) Try.ntmps75 (by simp) ?pure fun H0 g hf=>?_
 case pure=>exact .v _
 rw [zah]
 change wpA _ _ _ _ (Fr.of [(0,.agg (WirePress.cells a0)),(1,.ep [pA Wiring_.cells a1]),(2,.ep (Panel_.cells a2))]) H0 g
 have hS:=St.start hf
 refine Sq ?_
 refine Rg 2 ?_
 refine zbX (v:=.agg (WirePress.cells a0)) (cs:=(WirePress.cells a0)) hS (by decide) rfl rfl (by omega) fun H hS=>?_
 refine Oa (.b false) ?_
 refine Ni ?_
 refine zaZ (L':=[]) 0 3 hS rfl rfl rfl fun H hS=>?_
 refine Ws ?_
 refine Sq ?_
 have hS0:=hS
 refine zd1 (n:=11) rfl (by kernel_rfl) ?_
 refine Olp (pA Wiring_.cells a1) zrZ ztj ?_
 refine Olg (.agg (Panel_.cells a2)) zmj ?_
 refine Of ((WirePress.cells a0)) zlE ?_
 refine Olp (.i a0.Letter) zab zaf ?_
 refine Of ((WirePress.cells a0)) zlF ?_
 refine Olp (.i a0.Number) zab zaf ?_
 obtain ⟨r1,hr1,hM⟩:=zai hM
 refine zau (bs:=[pA Wiring_.cells a1,.agg (Panel_.cells a2),.i a0.Letter,.i a0.Number]) (by decide) rfl rfl ((zgc hr1).le (.k (.k (.k (.k .nil))))) ?_
 refine Of ((WirePress.cells a0)) zlG ?_
 refine Olp (.i a0.Got) zab zaf ?_
 refine Oi (.b (r1 != a0.Got)) ?_
 refine Oa (.b (r1 != a0.Got)) ?_
 refine Ni ?_
 refine zdz [(4,.b (r1 != a0.Got))] (.k .nil) ?_
 refine zaA ?_
 refine zaJ (x:=.b (r1 != a0.Got)) (f:=fun r=>.b r) (.inr rfl) ?_ (.refl _) (Option.some.inj hM) hS
 exact (zao (zac (x:=.b (r1 != a0.Got)) rfl))
theorem zhC {n:Nat} {a0:Option Wiring_} {a1:List WireFault} {a2:List WirePress} {r:Bool} (hM:zdf n a0 a1 a2=some r):zav Try.prog 46 [pA Wiring_.cells a0,.sl .no 3 (a1.map WireFault.cells),.sl .no 3 (a2.map WirePress.cells)] (.b r):=by
 refine zaj mixed Try.func46 rfl (by decide) Try.ntmps46 (by simp) ?pure fun H0 g hf=>?_
 case pure=>exact .v _
 rw [zah]
 change wpA _ _ _ _ (Fr.of [(0,pA Wiring_.cells a0),(1,.sl .no 3 (a1.map WireFault.cells)),(2,.sl .no 3 (a2.map WirePress.cells))]) H0 g
 have hS:=St.start hf
 refine Sq ?_
 refine Rg 2 ?_
 refine zbX (v:=pA Wiring_.cells a0) (cs:=[pA Wiring_.cells a0]) hS (by decide) rfl (zpi _ _) (by omega) fun H hS=>?_
 refine Oa (.b false) ?_
 refine Ni ?_
 refine zaZ (L':=[]) 0 3 hS rfl rfl rfl fun H hS=>?_
 refine Ws ?_
 refine Sq ?_
 refine Rg 4 ?_
 refine Om (.sl .no 3 (a1.map WireFault.cells)) ?_
 obtain ⟨r1,hr1,hM⟩:=zai hM
 refine zau (bs:=[.sl .no 3 (a1.map WireFault.cells)]) (by decide) rfl rfl ((zjS hr1).le (.k .nil)) ?_
 refine zcp hS (by decide) zkM (by omega) fun H hS=>?_
 refine za1 (v:=.agg (Panel_.cells r1)) (ns:=(Panel_.cells r1)) (L':=[(g+2+2,.cells (Panel_.cells r1))]) 0 hS rfl rfl .no rfl rfl zoB nlb rfl fun H hS=>?_
 refine Ni ?_
 refine zaZ (L':=[]) 0 7 hS rfl rfl rfl fun H hS=>?_
 refine Ws ?_
 refine Sq ?_
 refine Rg 5 ?_
 refine Om (.sl .no 3 (a2.map WirePress.cells)) ?_
 refine zcO (first:=[]) (cap:=[.ep [pA Wiring_.cells a0],.ep (Panel_.cells r1)]) (by decide) rfl rfl ?_
 obtain ⟨r2,hr2,hM⟩:=zai hM
 refine zau (bs:=[.sl .no 3 (a2.map WirePress.cells),.fn (.func 75) [] [.ep [pA Wiring_.cells a0],.ep (Panel_.cells r1)]]) (by decide) rfl rfl (zee ((zc3 (Lo:=(fun (_:Unit)=>[]))  (fun _ _=>zdJ) (fun _=>List.nodup_nil) (fun _=>zdi) (aF:=(fun (x0:WirePress) (_:Unit)=>(zbT x0 a0 r1).map fun y=>(y,()))) (fun _ H hH=>(.fn _ _ _ zcq (zbo (.ep _ (zbo (show Go.AM.Pure _ from zqq (fun x=>(zad (.v _) (zad (.v _) (zad (.sl _ _ (zaz (fun x=>(zad (.v _) (zad (.v _) (zad (.v _) zaG)))))) (zad (.v _) (zad (.sl _ _ (zaz (fun x=>(zad (.v _) (zad (.v _) (zad (.v _) zaG)))))) zaG)))))) _).inH zcq)) (zbo (.ep _ (zbo (show Go.AM.Pure _ from .v _).inH (zbo (show Go.AM.Pure _ from .v _).inH (zbo (show Go.AM.Pure _ from .v _).inH (zbo (show Go.AM.Pure _ from .v _).inH (zbo (show Go.AM.Pure _ from .v _).inH (zbo (show Go.AM.Pure _ from .v _).inH (zbo (show Go.AM.Pure _ from .v _).inH (zbo (show Go.AM.Pure _ from .v _).inH (zbo (show Go.AM.Pure _ from .v _).inH (zbo (show Go.AM.Pure _ from .v _).inH zcq))))))))))) zcq)))) rfl (fun h=>zhm (zgT (zdK h))) hr2).le (.k (.k .nil)))) ?_
 refine zd7 (e:=r2.1) (by decide) rfl ?_
 refine Oa (.b (!r2.1)) ?_
 refine Ni ?_
 refine zdz [(6,.b (!r2.1))] (.k .nil) ?_
 refine zaA ?_
 refine zaJ (x:=.b (!r2.1)) (f:=fun r=>.b r) (.inr rfl) ?_ (.refl _) (Option.some.inj hM) hS
 exact (zao (zac (x:=.b (!r2.1)) rfl))
theorem zjX {n:Nat} {a0:Wire} {a1:List WireFault} {r:Bool×Int} (hM:zfI n a0 a1=some r):zav Try.prog 20 [.agg (Wire.cells a0),.sl .no 3 (a1.map WireFault.cells)] (.tup [.b r.1,.i r.2]):=by
 refine zaj mixed Try.func20 rfl (by decide) Try.ntmps20 (by simp) ?pure fun H0 g hf=>?_
 case pure=>exact .tup _ (zad (.v _) (zad (.v _) zaG))
 rw [zah]
 change wpA _ _ _ _ (Fr.of [(0,.agg (Wire.cells a0)),(1,.sl .no 3 (a1.map WireFault.cells))]) H0 g
 have hS:=St.start hf
 refine Sq ?_
 refine Rg 3 ?_
 refine zbX (v:=.agg (Wire.cells a0)) (cs:=(Wire.cells a0)) hS (by decide) rfl rfl (by omega) fun H hS=>?_
 refine Oa (.b false) ?_
 refine Oa (.i 0) ?_
 refine Ni ?_
 refine zaZ (L':=[]) 0 2 hS rfl rfl rfl fun H hS=>?_
 refine Ws ?_
 refine Sq ?_
 refine Sq ?_
 refine Rg 3 ?_
 refine Olg (.agg (Wire.cells a0)) zfO ?_
 obtain ⟨r1,hr1,hM⟩:=zai hM
 refine zau (bs:=[.agg (Wire.cells a0)]) (by decide) rfl rfl ((zjb hr1).le (.k .nil)) ?_
 refine Oa (.i r1) ?_
 refine Ni ?_
 refine Ws ?_
 refine Sq ?_
 refine Rg 2 ?_
 refine Om (.i r1) ?_
 refine Oi (.b (r1 != 0)) ?_
 refine Ni ?_
 refine Ws ?_
 rcases bft (r1 != 0) with hb2 | hb2
 ·replace hM:=ifT hM hb2
  refine Ct hb2 ?_
  refine Sq ?_
  refine Rg 3 ?_
  refine Om (.i r1) ?_
  refine Oa (.b false) ?_
  refine Oa (.i r1) ?_
  refine Ni ?_
  refine Ws ?_
  refine zaA ?_
  refine zam ?_
  refine zaJ (x:=.tup [.b false,.i r1]) (f:=fun r=>.tup [.b r.1,.i r.2]) (.inr rfl) ?_ (.refl _) (Option.some.inj hM) hS
  exact (za2 (zac (x:=.b false) rfl) (zac (x:=.i r1) rfl))
 ·replace hM:=ifF hM hb2
  refine Cf hb2 ?_
  refine zar ?_
  refine Ws ?_
  refine Sq ?_
  refine Rg 3 ?_
  refine Olg (.agg (Wire.cells a0)) zfO ?_
  obtain ⟨r3,hr3,hM⟩:=zai hM
  refine zau (bs:=[.agg (Wire.cells a0)]) (by decide) rfl rfl ((zjR hr3).le (.k .nil)) ?_
  refine Oa (pA Wiring_.cells r3) ?_
  refine Ni ?_
  refine Ws ?_
  refine Sq ?_
  refine Sq ?_
  refine Rg 4 ?_
  refine Om (pA Wiring_.cells r3) ?_
  refine Om (.sl .no 3 (a1.map WireFault.cells)) ?_
  obtain ⟨r4,hr4,hM⟩:=zai hM
  refine zau (bs:=[pA Wiring_.cells r3,.sl .no 3 (a1.map WireFault.cells)]) (by decide) rfl rfl ((zgb hr4).le (.k (.k .nil))) ?_
  refine zd7 (e:=r4) (by decide) rfl ?_
  refine Ni ?_
  refine Ws ?_
  rcases bft (!r4) with hb5 | hb5
  ·replace hM:=ifT hM hb5
   refine Ct hb5 ?_
   refine Sq ?_
   refine Rg 2 ?_
   refine Oa (.b false) ?_
   refine Oa (.i 1) ?_
   refine Ni ?_
   refine Ws ?_
   refine zaA ?_
   refine zam ?_
   refine zaJ (x:=.tup [.b false,.i 1]) (f:=fun r=>.tup [.b r.1,.i r.2]) (.inr rfl) ?_ (.refl _) (Option.some.inj hM) hS
   exact (za2 (zac (x:=.b false) rfl) (zac (x:=.i 1) rfl))
  ·replace hM:=ifF hM hb5
   refine Cf hb5 ?_
   refine zar ?_
   refine Ws ?_
   refine Sq ?_
   refine Rg 7 ?_
   refine Om (pA Wiring_.cells r3) ?_
   refine Om (.sl .no 3 (a1.map WireFault.cells)) ?_
   refine Of ((Wire.cells a0)) zkO ?_
   refine Olp (.sl .no 3 (a0.Presses.map WirePress.cells)) zme znZ ?_
   obtain ⟨r6,hr6,hM⟩:=zai hM
   refine zau (bs:=[pA Wiring_.cells r3,.sl .no 3 (a1.map WireFault.cells),.sl .no 3 (a0.Presses.map WirePress.cells)]) (by decide) rfl rfl ((zhC hr6).le (.k (.k (.k .nil)))) ?_
   refine Oa (.b r6) ?_
   refine Oa (.i 0) ?_
   refine Ni ?_
   refine zdz [(4,.b r6),(5,.i 0)] (.k (.k .nil)) ?_
   refine zaA ?_
   refine zaJ (x:=.tup [.b r6,.i 0]) (f:=fun r=>.tup [.b r.1,.i r.2]) (.inr rfl) ?_ (.refl _) (Option.some.inj hM) hS
   exact (za2 (zac (x:=.b r6) rfl) (zac (x:=.i 0) rfl))
theorem zg3 {a0:Train_} {r:Wire} (hM:zdN a0=some r):zav Try.prog 21 [.agg (Train_.cells a0)] (.agg [.i r.Letters,.i r.Numbers,.sl .no 3 (r.Presses.map WirePress.cells),.i r.Faults]):=by
 refine zaj mixed Try.func21 rfl (by decide) Try.ntmps21 (by simp) ?pure fun H0 g hf=>?_
 case pure=>exact .agg _ (zad (.v _) (zad (.v _) (zad (.sl _ _ (zaz (fun x=>(zad (.v _) (zad (.v _) (zad (.v _) zaG)))))) (zad (.v _) zaG))))
 rw [zah]
 change wpA _ _ _ _ (Fr.of [(0,.agg (Train_.cells a0))]) H0 g
 have hS:=St.start hf
 refine Sq ?_
 refine Rg 2 ?_
 refine zbX (v:=.agg (Train_.cells a0)) (cs:=(Train_.cells a0)) hS (by decide) rfl rfl (by omega) fun H hS=>?_
 refine zcp hS (by decide) zi4 (by omega) fun H hS=>?_
 refine Ni ?_
 refine zaZ (L':=[(g+1,.cells [.i 0,.i 0,.sl .nil 0 [],.i 0])]) 1 1 hS rfl rfl rfl fun H hS=>?_
 refine Ws ?_
 refine Sq ?_
 refine Rg 8 ?_
 refine Of ((Train_.cells a0)) zcW ?_
 refine Of ((Train_.cells a0)) zfo ?_
 refine Olp (.i a0.Pulse.Letters) zab zaf ?_
 refine Of ((Train_.cells a0)) zcW ?_
 refine Of ((Train_.cells a0)) zcu ?_
 refine Olp (.i a0.Pulse.Numbers) zab zaf ?_
 refine zbD (cs:=[.i a0.Pulse.Letters,.i a0.Pulse.Numbers,.sl .nil 0 [],.i 0]) (by decide) zi4 zqC rfl ?_
 refine za1 (v:=.agg [.i a0.Pulse.Letters,.i a0.Pulse.Numbers,.sl .nil 0 [],.i 0]) (ns:=[.i a0.Pulse.Letters,.i a0.Pulse.Numbers,.sl .nil 0 [],.i 0]) (L':=[(g+1,.cells [.i a0.Pulse.Letters,.i a0.Pulse.Numbers,.sl .nil 0 [],.i 0])]) 0 hS rfl rfl .no rfl rfl zoA nlb rfl fun H hS=>?_
 refine Ni ?_
 refine Ws ?_
 refine zaA ?_
 refine zaJ (x:=.agg [.i a0.Pulse.Letters,.i a0.Pulse.Numbers,.sl .nil 0 [],.i 0]) (f:=fun r=>.agg [.i r.Letters,.i r.Numbers,.sl .no 3 (r.Presses.map WirePress.cells),.i r.Faults]) (.inr rfl) ?_ (.aggL (.k (.k (.cons (.sl0 .nil 3 0) (.k .nil))))) (Option.some.inj hM) hS
 exact (zao (zeM (x:=.agg [.i a0.Pulse.Letters,.i a0.Pulse.Numbers,.sl .nil 0 [],.i 0]) 0 hS rfl rfl (pg zfO)))
theorem zjA {p1:Nat} (hnd:[p1].Nodup) {n:Nat} {a0:Train_} {a1:List WireFault} {r:Bool} (hM:zdu n a0 a1=some r):zhD Try.prog 19 [.agg (Train_.cells a0),.ptr p1 0] [(p1,.cells [.sl .od 3 (a1.map WireFault.cells)])] (.b r) [(p1,.cells [.sl .od 3 (a1.map WireFault.cells)])]:=by
 refine zbk mixed Try.func19 rfl (by decide) Try.ntmps19 (by simp) (zbP zdJ) hnd ?pure ?cells fun H0 g hf_ hp=>?_
 case pure=>exact fun H _=>(show Go.AM.Pure _ from .v _).inH
 case cells=>exact (zfT (zb2 (zaw (.inl (.inl (.od _ _ (zaz (fun x=>(zad (.v _) (zad (.v _) (zad (.v _) zaG)))))))) zed) zfS) zdi)
 rw [zah]
 change wpA _ _ _ _ (Fr.of [(0,.agg (Train_.cells a0)),(1,.ptr p1 0)]) H0 g
 have hS:=St.startH (L:=[(p1,.cells [.sl .od 3 (a1.map WireFault.cells)])]) hf_ hnd hp
 replace hS:St (fun i=>i<g/\i∉ids [(p1,.cells [.sl .no 3 (a1.map WireFault.cells)])]) H0 [(p1,.cells [.sl .od 3 (a1.map WireFault.cells)])] H0 g:=hS
 refine Sq ?_
 refine Rg 2 ?_
 refine zbX (v:=.agg (Train_.cells a0)) (cs:=(Train_.cells a0)) hS (by decide) rfl rfl (by omega) fun H hS=>?_
 refine Oa (.b false) ?_
 refine Ni ?_
 refine zaZ (L':=[(p1,.cells [.sl .od 3 (a1.map WireFault.cells)])]) 0 2 hS rfl rfl rfl fun H hS=>?_
 refine Ws ?_
 refine Sq ?_
 have hS0:=hS
 refine zd1 (n:=9) rfl (by kernel_rfl) ?_
 refine Olg (.agg (Train_.cells a0)) zgp ?_
 obtain ⟨r1,hr1,hM⟩:=zai hM
 refine zau (bs:=[.agg (Train_.cells a0)]) (by decide) rfl rfl ((zg3 hr1).le (.k .nil)) ?_
 refine za3 (v:=.sl .od 3 (a1.map WireFault.cells)) 0 hS (by decide) rfl rfl (.st hS0 0 rfl (by omega)) (po zi2 zkK) ?_
 obtain ⟨r2,hr2,hM⟩:=zai hM
 refine zau (bs:=[.agg (Wire.cells r1),.sl .od 3 (a1.map WireFault.cells)]) (by decide) rfl rfl ((zjX hr2).le (.k (.cons (.sl _ _ _) .nil))) ?_
 refine Om (.tup [.b r2.1,.i r2.2]) ?_
 refine Ox (.b r2.1) ?_
 refine Ox (.i r2.2) ?_
 refine Oa (.b r2.1) ?_
 refine Oa (.i r2.2) ?_
 refine Ni ?_
 refine Ws ?_
 refine Sq ?_
 refine Rg 3 ?_
 refine Om (.i r2.2) ?_
 refine Oi (.b (r2.2==0)) ?_
 refine Oa (.b (r2.2==0)) ?_
 refine Ni ?_
 refine zdz [(3,.b (r2.2==0))] (.k .nil) ?_
 refine zaA ?_
 refine zc2 (x:=.b (r2.2==0)) (f:=fun r=>.b r) (fd:=fun r=>[(p1,.cells [.sl .od 3 (a1.map WireFault.cells)])]) (.inr rfl) ?_ (.refl _) (Option.some.inj hM) hS 0 rfl
 exact (zao (zac (x:=.b (r2.2==0)) rfl))
theorem zmo {n:Nat} {a0:Wire} {a1:List WireFault} {a2:Int} {a3:Int} {r:Int×Int} (hM:zgF n a0 a1 a2 a3=some r):zav Try.prog 23 [.agg (Wire.cells a0),.sl .no 3 (a1.map WireFault.cells),.i a2,.i a3] (.tup [.i r.1,.i r.2]):=by
 refine zaj mixed Try.func23 rfl (by decide) Try.ntmps23 (by simp) ?pure fun H0 g hf=>?_
 case pure=>exact .tup _ (zad (.v _) (zad (.v _) zaG))
 rw [zah]
 change wpA _ _ _ _ (Fr.of [(0,.agg (Wire.cells a0)),(1,.sl .no 3 (a1.map WireFault.cells)),(2,.i a2),(3,.i a3)]) H0 g
 have hS:=St.start hf
 refine Sq ?_
 refine Rg 3 ?_
 refine zbX (v:=.agg (Wire.cells a0)) (cs:=(Wire.cells a0)) hS (by decide) rfl rfl (by omega) fun H hS=>?_
 refine Oa (.i 0) ?_
 refine Oa (.i 0) ?_
 refine Ni ?_
 refine zaZ (L':=[]) 0 4 hS rfl rfl rfl fun H hS=>?_
 refine Ws ?_
 refine Sq ?_
 refine Sq ?_
 refine Rg 3 ?_
 refine Olg (.agg (Wire.cells a0)) zfO ?_
 obtain ⟨r1,hr1,hM⟩:=zai hM
 refine zau (bs:=[.agg (Wire.cells a0)]) (by decide) rfl rfl ((zjb hr1).le (.k .nil)) ?_
 refine Oa (.i r1) ?_
 refine Ni ?_
 refine Ws ?_
 refine Sq ?_
 refine Rg 2 ?_
 refine Om (.i r1) ?_
 refine Oi (.b (r1 != 0)) ?_
 refine Ni ?_
 refine Ws ?_
 rcases bft (r1 != 0) with hb2 | hb2
 ·replace hM:=ifT hM hb2
  refine Ct hb2 ?_
  refine Sq ?_
  refine Rg 3 ?_
  refine Om (.i r1) ?_
  refine Oa (.i 0) ?_
  refine Oa (.i r1) ?_
  refine Ni ?_
  refine Ws ?_
  refine zaA ?_
  refine zam ?_
  refine zaJ (x:=.tup [.i 0,.i r1]) (f:=fun r=>.tup [.i r.1,.i r.2]) (.inr rfl) ?_ (.refl _) (Option.some.inj hM) hS
  exact (za2 (zac (x:=.i 0) rfl) (zac (x:=.i r1) rfl))
 ·replace hM:=ifF hM hb2
  refine Cf hb2 ?_
  refine zar ?_
  refine Ws ?_
  refine Sq ?_
  refine Rg 3 ?_
  refine Olg (.agg (Wire.cells a0)) zfO ?_
  obtain ⟨r3,hr3,hM⟩:=zai hM
  refine zau (bs:=[.agg (Wire.cells a0)]) (by decide) rfl rfl ((zjR hr3).le (.k .nil)) ?_
  refine Oa (pA Wiring_.cells r3) ?_
  refine Ni ?_
  refine Ws ?_
  refine Sq ?_
  refine zaC (J:=Bool) (fun j=>[(1,.sl .no 3 (a1.map WireFault.cells)),(2,.i a2),(3,.i a3),(11,pA Wiring_.cells r3),(29,.b j)]) (fun j H' g'=>St (·<g) H0 [] H' g'/\zdU n a1 a2 a3 r3 j=some r) ?_ ?_
  ·rintro v4 H g1 ⟨hS,hM⟩
   change wpA _ _ _ _ (Fr.of [(1,.sl .no 3 (a1.map WireFault.cells)),(2,.i a2),(3,.i a3),(11,pA Wiring_.cells r3),(29,.b v4)]) _ _
   replace hS:St (·<g) H0 [] H g1:=hS
   replace hM:zdU n a1 a2 a3 r3 v4=some r:=hM
   rcases bft v4 with hb5 | hb5
   ·replace hM:=ifT hM hb5
    refine Ct hb5 ?_
    refine Sq ?_
    refine Rg 2 ?_
    refine Oa (.i 0) ?_
    refine Oa (.i 1) ?_
    refine Ni ?_
    refine Ws ?_
    refine zaA ?_
    refine zam ?_
    refine zaJ (x:=.tup [.i 0,.i 1]) (f:=fun r=>.tup [.i r.1,.i r.2]) (.inr rfl) ?_ (.refl _) (Option.some.inj hM) hS
    exact (za2 (zac (x:=.i 0) rfl) (zac (x:=.i 1) rfl))
   ·replace hM:=ifF hM hb5
    refine Cf hb5 ?_
    refine zar ?_
    refine Ws ?_
    refine Sq ?_
    refine Rg 8 ?_
    refine Om (pA Wiring_.cells r3) ?_
    refine Om (.sl .no 3 (a1.map WireFault.cells)) ?_
    obtain ⟨r6,hr6,hM⟩:=zai hM
    refine zau (bs:=[.sl .no 3 (a1.map WireFault.cells)]) (by decide) rfl rfl ((zjS hr6).le (.k .nil)) ?_
    refine Om (.i a2) ?_
    refine Om (.i a3) ?_
    obtain ⟨r7,hr7,hM⟩:=zai hM
    refine zau (bs:=[pA Wiring_.cells r3,.agg (Panel_.cells r6),.i a2,.i a3]) (by decide) rfl rfl ((zgc hr7).le (.k (.k (.k (.k .nil))))) ?_
    refine Oa (.i r7) ?_
    refine Oa (.i 0) ?_
    refine Ni ?_
    refine Ws ?_
    refine zaA ?_
    refine zaJ (x:=.tup [.i r7,.i 0]) (f:=fun r=>.tup [.i r.1,.i r.2]) (.inr rfl) ?_ (.refl _) (Option.some.inj hM) hS
    exact (za2 (zac (x:=.i r7) rfl) (zac (x:=.i 0) rfl))
  ·refine Rg 11 ?_
   refine Om (pA Wiring_.cells r3) ?_
   refine Om (.sl .no 3 (a1.map WireFault.cells)) ?_
   obtain ⟨r8,hr8,hM⟩:=zai hM
   refine zau (bs:=[pA Wiring_.cells r3,.sl .no 3 (a1.map WireFault.cells)]) (by decide) rfl rfl ((zgb hr8).le (.k (.k .nil))) ?_
   refine zd7 (e:=r8) (by decide) rfl ?_
   refine Om (.b (!r8)) ?_
   rcases bft (!r8) with hb9 | hb9
   ·replace hM:=ifT hM hb9
    refine On (want:=false) hb9 ?_
    refine On (want:=false) hb9 ?_
    refine On (want:=false) hb9 ?_
    refine On (want:=false) hb9 ?_
    refine On (want:=false) hb9 ?_
    refine Pt (.b true) hb9 ?_
    refine Ni ?_
    exact zag true (.k (.k (.k (.k (.k .nil))))) ⟨(hS.keep [] rfl).up (by omega),hM⟩
   ·replace hM:=ifF hM hb9
    refine Oy (want:=false) hb9 ?_
    refine Olg (.agg (Wire.cells a0)) zfO ?_
    refine Oy (want:=false) hb9 ?_
    refine Om (.i a2) ?_
    refine Oy (want:=false) hb9 ?_
    refine Om (.i a3) ?_
    refine Oy (want:=false) hb9 ?_
    obtain ⟨r10,hr10,hM⟩:=zai hM
    refine zau (bs:=[.agg (Wire.cells a0),.i a2,.i a3]) (by decide) rfl rfl ((zid hr10).le (.k (.k (.k .nil)))) ?_
    refine Oy (want:=false) hb9 ?_
    refine zd7 (e:=r10) (by decide) rfl ?_
    refine Pf (.b (!r10)) hb9 ?_
    refine Ni ?_
    exact zag (!r10) (.k (.k (.k (.k (.k .nil))))) ⟨(hS.keep [] rfl).up (by omega),hM⟩
theorem zlg {n:Nat} {a0:Pulse} {a1:List WireFault} {r:(List Int)×Int} (hM:zgY n a0 a1=some r):zav Try.prog 7 [.agg (Pulse.cells a0),.sl .no 3 (a1.map WireFault.cells)] (.tup [.sl .no 1 (r.1.map cI),.i r.2]):=by
 refine zma mixed Try.func7 rfl (by decide) Try.ntmps7 (bs:=[.agg [.i a0.Letters,.i a0.Numbers,.i a0.Pitch,.i a0.Slack,.i a0.Gap,.i a0.Pause,.i a0.Sparks,.sl .od 1 (a0.Times.map cI)],.sl .od 3 (a1.map WireFault.cells)]) (zs:=r.1) (y:=.int .i64 r.2) (by simp) ?pure (zfG (.aggL (zfG (.v _) (zfG (.v _) (zfG (.v _) (zfG (.v _) (zfG (.v _) (zfG (.v _) (zfG (.v _) (zfG (.sl _ _ (by decide) (zot (fun x=>(zh0 zos)))) zqx))))))))) (zfG (.sl _ _ (by decide) (zot (fun x=>(zh0 (zh0 (zh0 zos)))))) zqx)) fun G0 w0 C hlo hC H0 g hE0 hf=>?_
 case pure=>exact (zad (.agg _ (zad (.v _) (zad (.v _) (zad (.v _) (zad (.v _) (zad (.v _) (zad (.v _) (zad (.v _) (zad (.sl _ _ (zaz (fun x=>(zad (.v _) zaG)))) zaG))))))))) (zad (.sl _ _ (zaz (fun x=>(zad (.v _) (zad (.v _) (zad (.v _) zaG)))))) zaG))
 rw [zah]
 change Snd _ _ _ _ _ _ (Fr.of [(0,.agg [.i a0.Letters,.i a0.Numbers,.i a0.Pitch,.i a0.Slack,.i a0.Gap,.i a0.Pause,.i a0.Sparks,.sl .od 1 (a0.Times.map cI)]),(1,.sl .od 3 (a1.map WireFault.cells))]) H0 g
 have hS:=St.start hf
 refine zkG mixed hC ?_
 refine Rg 4 ?_
 refine zbX (v:=.agg [.i a0.Letters,.i a0.Numbers,.i a0.Pitch,.i a0.Slack,.i a0.Gap,.i a0.Pause,.i a0.Sparks,.sl .od 1 (a0.Times.map cI)]) (cs:=[.i a0.Letters,.i a0.Numbers,.i a0.Pitch,.i a0.Slack,.i a0.Gap,.i a0.Pause,.i a0.Sparks,.sl .od 1 (a0.Times.map cI)]) hS (by decide) rfl rfl (by omega) fun H hS=>?_
 refine zbX (v:=.sl .od 3 (a1.map WireFault.cells)) (cs:=[.sl .od 3 (a1.map WireFault.cells)]) hS (by decide) rfl rfl (by omega) fun H hS=>?_
 refine Oa (.sl .nil 0 []) ?_
 refine Oa (.i 0) ?_
 refine Ni ?_
 refine zjs (l':=[(2,.ptr (g+0) 0),(3,.ptr (g+1) 0)]) (.k (.k .nil)) ?_
 refine zkG mixed hC ?_
 refine Rg 8 ?_
 refine za3 (v:=.agg [.i a0.Letters,.i a0.Numbers,.i a0.Pitch,.i a0.Slack,.i a0.Gap,.i a0.Pause,.i a0.Sparks,.sl .od 1 (a0.Times.map cI)]) 1 hS (by decide) rfl rfl .no (pg za0) ?_
 refine zcO (first:=[]) (cap:=[.ptr (g+1) 0]) (by decide) rfl rfl ?_
 obtain ⟨r1,hr1,hM⟩:=zai hM
 have hndr1:=hS.nd_at (ns:=[0]) (M:=[(g+1,.cells [.sl .od 3 (a1.map WireFault.cells)])]) (M':=[(g+1,.cells [.sl .od 3 (a1.map WireFault.cells)])]) (.cons rfl .nil) (by decide)
 have hncr1:=hS.nd_at (ns:=[0]) (M:=[(g+1,.cells [.sl .od 3 (a1.map WireFault.cells)])]) (M':=[(g+1,.cells [.sl .od 3 (a1.map WireFault.cells)])]) (.cons rfl .nil) (by decide)
 refine zit (bs:=[.agg [.i a0.Letters,.i a0.Numbers,.i a0.Pitch,.i a0.Slack,.i a0.Gap,.i a0.Pause,.i a0.Sparks,.sl .od 1 (a0.Times.map cI)],.fn (.func 19) [] [.ptr (g+1) 0]]) (M:=[(g+1,.cells [.sl .od 3 (a1.map WireFault.cells)])]) (M':=[(g+1,.cells [.sl .od 3 (a1.map WireFault.cells)])]) (L':=[(g+1,.cells [.sl .od 3 (a1.map WireFault.cells)]),(g+0,.cells [.i a0.Letters,.i a0.Numbers,.i a0.Pitch,.i a0.Slack,.i a0.Gap,.i a0.Pause,.i a0.Sparks,.sl .od 1 (a0.Times.map cI)])]) [0] (.inl rfl) hS (by decide) rfl rfl ((zfq (Lo:=(fun (_:Unit)=>[(g+1,.cells [.sl .od 3 (a1.map WireFault.cells)])]))  (fun _ _=>(zbP zdJ)) (fun _=>hndr1) (fun s=>(zfT (zb2 (zaw (.inl (.inl (.od _ _ (zaz (fun x=>(zad (.v _) (zad (.v _) (zad (.v _) zaG)))))))) zed) zfS) zdi)) (aF:=(fun (x0:Train_) (_:Unit)=>(zdu n x0 a1).map fun y=>(y,()))) (fun s H hH=>(.fn _ _ _ zcq (zbo (ziX hH 0 rfl) zcq))) rfl (fun h=>zjr (zjA (p1:=g+1)  hncr1 (zdK h))) hr1).le (.cons (.aggL (.k (.k (.k (.k (.k (.k (.k (.cons (.sl _ _ _) .nil))))))))) (.k .nil))) (.cons rfl .nil) rfl (by omega) fun H hS=>?_
 refine Om (.tup [.sl .no 2 (r1.1.1.map Reading_.cells),.i r1.1.2]) ?_
 refine Ox (.sl .no 2 (r1.1.1.map Reading_.cells)) ?_
 refine Ox (.i r1.1.2) ?_
 refine Oa (.sl .no 2 (r1.1.1.map Reading_.cells)) ?_
 refine Oa (.i r1.1.2) ?_
 refine Ni ?_
 refine zjs (l':=[(2,.ptr (g+0) 0),(3,.ptr (g+1) 0),(6,.sl .no 2 (r1.1.1.map Reading_.cells)),(7,.i r1.1.2)]) (.k (.k (.k (.k .nil)))) ?_
 refine zkG mixed hC ?_
 refine Sq ?_
 refine Rg 2 ?_
 refine Om (.i r1.1.2) ?_
 refine Oi (.b (r1.1.2 != 0)) ?_
 refine Ni ?_
 refine Ws ?_
 rcases bft (r1.1.2 != 0) with hb2 | hb2
 ·replace hM:=ifT hM hb2
  refine Ct hb2 ?_
  refine Sq ?_
  refine Rg 3 ?_
  refine Om (.i r1.1.2) ?_
  refine Oa (.sl .nil 0 []) ?_
  refine Oa (.i r1.1.2) ?_
  refine Ni ?_
  replace hS:=hS.keep (L':=[]) [false,false] rfl
  refine Ws ?_
  refine zaA ?_
  refine zam ?_
  obtain rfl:=Option.some.inj hM
  exact ⟨.inr rfl,.inr (.inl ⟨rfl,_,_,(za2 (zac (x:=.sl .nil 0 []) rfl) (zac (x:=.i r1.1.2) rfl))⟩)⟩
 ·replace hM:=ifF hM hb2
  refine Cf hb2 ?_
  refine zar ?_
  refine zjs (l':=[(2,.ptr (g+0) 0),(3,.ptr (g+1) 0),(6,.sl .no 2 (r1.1.1.map Reading_.cells))]) (.k (.k (.k .nil))) ?_
  refine zkG mixed hC ?_
  refine Rg 7 ?_
  refine Om (.sl .no 2 (r1.1.1.map Reading_.cells)) ?_
  obtain ⟨r3,hr3,hM⟩:=zai hM
  refine zau (bs:=[.sl .no 2 (r1.1.1.map Reading_.cells)]) (by decide) rfl rfl ((zjQ hr3).le (.k .nil)) ?_
  refine Om (.tup [.sl .fr 1 (r3.1.map cI),.i r3.2]) ?_
  refine Ox (.sl .fr 1 (r3.1.map cI)) ?_
  refine Ox (.i r3.2) ?_
  refine Oa (.sl .fr 1 (r3.1.map cI)) ?_
  refine Oa (.i r3.2) ?_
  refine Ni ?_
  refine zjs (l':=[(2,.ptr (g+0) 0),(3,.ptr (g+1) 0),(7,.i r3.2),(8,.sl .fr 1 (r3.1.map cI))]) (.k (.k (.k (.k .nil)))) ?_
  refine zkG mixed hC ?_
  refine Sq ?_
  refine Rg 2 ?_
  refine Om (.i r3.2) ?_
  refine Oi (.b (r3.2 != 0)) ?_
  refine Ni ?_
  refine Ws ?_
  rcases bft (r3.2 != 0) with hb4 | hb4
  ·replace hM:=ifT hM hb4
   refine Ct hb4 ?_
   refine Sq ?_
   refine Rg 3 ?_
   refine Om (.i r3.2) ?_
   refine Oa (.sl .nil 0 []) ?_
   refine Oa (.i r3.2) ?_
   refine Ni ?_
   replace hS:=hS.keep (L':=[]) [false,false] rfl
   refine Ws ?_
   refine zaA ?_
   refine zam ?_
   obtain rfl:=Option.some.inj hM
   exact ⟨.inr rfl,.inr (.inl ⟨rfl,_,_,(za2 (zac (x:=.sl .nil 0 []) rfl) (zac (x:=.i r3.2) rfl))⟩)⟩
  ·replace hM:=ifF hM hb4
   refine Cf hb4 ?_
   refine zar ?_
   rcases bft (r3.1.length==0) with hb5 | hb5
   ·replace hM:=ifT hM hb5
    refine zjs (l':=[(8,.sl .fr 1 (r3.1.map cI)),(2,.ptr (g+0) 0),(3,.ptr (g+1) 0)]) (.k (.k (.k .nil))) ?_
    refine zuc mixed hC ?_
    refine Sq ?_
    refine Sq ?_
    refine Rg 3 ?_
    refine Om (.sl .fr 1 (r3.1.map cI)) ?_
    refine zcj (n:=r3.1.length) (by decide) rfl (List.length_map _) za9 ?_
    refine Om (.i 0) ?_
    refine Ni ?_
    have hz:r3.1.length=0:=eq_of_beq hb5
    have hu:r3.1=[]:=List.eq_nil_of_length_eq_zero hz
    refine Ws ?_
    refine zaq ?_
    refine zbr (V:=Unit) (fun _=>[(8,.sl .fr 1 (r3.1.map cI)),(29,.i (r3.1.length:Int)),(30,.i 0)]) (fun _ _ _ _=>True) (n:=0) () (.k (.k (.k .nil))) trivial ?_
    rintro ⟨⟩ m H g _
    change wpA _ _ _ _ (Fr.of [(8,.sl .fr 1 (r3.1.map cI)),(29,.i (r3.1.length:Int)),(30,.i 0)]) _ _
    refine Sq ?_
    refine Rg 1 ?_
    refine Oi (.b (decide ((0:Int)<(r3.1.length:Int)))) ?_
    refine Ni ?_
    refine Ws ?_
    refine Sq ?_
    refine zp6 (e:=decide ((0:Int)<(r3.1.length:Int))) rfl (by simp [hz]) ?_
    refine zbl ?_
    refine zap ?_
    refine zan ?_
    refine zat ?_
    refine Ws ?_
    refine Sq ?_
    refine Rg 3 ?_
    refine Om (.sl .fr 1 (r3.1.map cI)) ?_
    refine Oa (.sl .fr 1 (r3.1.map cI)) ?_
    refine Oa (.i 0) ?_
    refine Ni ?_
    refine zdz [(4,.sl .fr 1 []),(5,.i 0)] (.cons (show Le (.sl .fr 1 []) (.sl .fr 1 (r3.1.map cI)) from by rw [hu];exact .refl _) (.k .nil)) ?_
    refine zaA ?_
    obtain rfl:=Option.some.inj hM
    exact ⟨.inr rfl,.inr (.inl ⟨rfl,_,_,za2 (zac rfl) (zac rfl)⟩)⟩
   ·replace hM:=ifF hM hb5
    refine zjs (l':=[(8,.sl .fr 1 (r3.1.map cI)),(2,.ptr (g+0) 0),(3,.ptr (g+1) 0)]) (.k (.k (.k .nil))) ?_
    refine zrW mixed hC hlo (by decide) hb5 hE0 hS (by omega) (fun i hi=>by have hi:i<g:=hi;omega) (zeY (.ptr _ _ 1 _ rfl) (zeY (.ptr _ _ 0 _ rfl) znX)) (zm2 (zeY (.od _ _ (zot (fun x=>(zh0 (zh0 (zh0 zos)))))) znX) (zm2 (zeY (.v _) (zeY (.v _) (zeY (.v _) (zeY (.v _) (zeY (.v _) (zeY (.v _) (zeY (.v _) (zeY (.od _ _ (zot (fun x=>(zh0 zos)))) znX)))))))) zrV)) fun H hS=>?_
    refine zaC (J:=(List Int)) (fun j=>[(8,.ms (g+4+8+2+7+2) 0 1 r3.1.length r3.1.length)]) (fun j H' g'=>St (·<g) H0 [(g+4+8+2+7+2,.cells (j.map cI).flatten)] H' g'/\zfb r3 j=some r) ?_ ?_
    ·rintro v6 H g1 ⟨hS,hM⟩
     change wpA _ _ _ _ (Fr.of [(8,.ms (g+4+8+2+7+2) 0 1 r3.1.length r3.1.length)]) _ _
     replace hS:St (·<g) H0 [(g+4+8+2+7+2,.cells (v6.map cI).flatten)] H g1:=hS
     replace hM:zfb r3 v6=some r:=hM
     refine Sq ?_
     refine Rg 3 ?_
     refine Om (.ms (g+4+8+2+7+2) 0 1 r3.1.length r3.1.length) ?_
     refine Oa (.ms (g+4+8+2+7+2) 0 1 r3.1.length r3.1.length) ?_
     refine Oa (.i 0) ?_
     refine Ni ?_
     refine Ws ?_
     refine zaA ?_
     obtain ⟨x7,hx7,hM⟩:=zai hM
     obtain rfl:=Option.some.inj hM
     refine zrX 0 (.inr rfl) (zrT hx7) ?_ hS rfl
     exact (za2 (zac (x:=.ms (g+4+8+2+7+2) 0 1 r3.1.length r3.1.length) rfl) (zac (x:=.i 0) rfl))
    ·refine Sq ?_
     refine Rg 3 ?_
     refine Om (.ms (g+4+8+2+7+2) 0 1 r3.1.length r3.1.length) ?_
     refine zue (n:=r3.1.length) (by decide) rfl za9 ?_
     refine Om (.i 0) ?_
     refine Ni ?_
     refine Ws ?_
     refine zaq ?_
     refine zbr (V:=Int×(List Int)) (fun v=>[(2,.ptr (g+0) 0),(3,.ptr (g+1) 0),(8,.ms (g+4+8+2+7+2) 0 1 r3.1.length r3.1.length),(28,.ms (g+4+8+2+7+2) 0 1 r3.1.length r3.1.length),(29,.i (r3.1.length:Int)),(30,.i v.1)]) (fun v m3 H' g'=>St (·<g) H0 [(g+4+8+2+7+2,.cells (v.2.map cI).flatten),(g+1,.cells [.sl .od 3 (a1.map WireFault.cells)]),(g+0,.cells [.i a0.Letters,.i a0.Numbers,.i a0.Pitch,.i a0.Slack,.i a0.Gap,.i a0.Pause,.i a0.Sparks,.sl .od 1 (a0.Times.map cI)])] H' g'/\zcS n a0 a1 r3 m3 v.1 v.2=some r) (n:=n) (0,r3.1) (.k (.k (.k (.k (.k (.k .nil)))))) ⟨(hS.keep [true,true,true] rfl).up (by omega),hM⟩ ?_
     rintro ⟨v9,v10⟩ m3 H g3 ⟨hS,hM⟩
     obtain _ | m3:=m3
     ·exact nomatch (show none=some _ from hM)
     change wpA _ _ _ _ (Fr.of [(2,.ptr (g+0) 0),(3,.ptr (g+1) 0),(8,.ms (g+4+8+2+7+2) 0 1 r3.1.length r3.1.length),(28,.ms (g+4+8+2+7+2) 0 1 r3.1.length r3.1.length),(29,.i (r3.1.length:Int)),(30,.i v9)]) _ _
     replace hS:St (·<g) H0 [(g+4+8+2+7+2,.cells (v10.map cI).flatten),(g+1,.cells [.sl .od 3 (a1.map WireFault.cells)]),(g+0,.cells [.i a0.Letters,.i a0.Numbers,.i a0.Pitch,.i a0.Slack,.i a0.Gap,.i a0.Pause,.i a0.Sparks,.sl .od 1 (a0.Times.map cI)])] H g3:=hS
     replace hM:zex n a0 a1 r3 (zcS n a0 a1 r3 m3) v9 v10=some r:=hM
     refine Sq ?_
     refine Rg 1 ?_
     refine Oi (.b (decide (v9<(r3.1.length:Int)))) ?_
     refine Ni ?_
     refine Ws ?_
     refine Sq ?_
     rcases bft (decide (v9<(r3.1.length:Int))) with hb11 | hb11
     ·replace hM:=ifT hM hb11
      refine Ct hb11 ?_
      refine zar ?_
      refine Ws ?_
      refine Sq ?_
      refine zaq ?_
      refine Sq ?_
      refine Rg 5 ?_
      refine Om (.i v9) ?_
      obtain ⟨x12,hx12,hM⟩:=zai hM
      refine zou (xs:=v10) (z:=v9) (u:=x12) (by decide) rfl (zov hx12) rfl zaR (zj7 hx12) ?_
      refine ztf (f:=cI) (xs:=v10) (z:=v9) (u:=x12) (c:=.i x12) 0 hS (by decide) rfl rfl (zj7 hx12) .no (fun _=>rfl) rfl zab zaf ?_
      refine Oa (.i v9) ?_
      refine Oa (.i x12) ?_
      refine Ni ?_
      refine Ws ?_
      have hS0:=hS
      refine zd1 (n:=20) rfl (by kernel_rfl) ?_
      refine Om (.ms (g+4+8+2+7+2) 0 1 r3.1.length r3.1.length) ?_
      refine Om (.i v9) ?_
      refine za3 (v:=.agg [.i a0.Letters,.i a0.Numbers,.i a0.Pitch,.i a0.Slack,.i a0.Gap,.i a0.Pause,.i a0.Sparks,.sl .od 1 (a0.Times.map cI)]) 2 hS (by decide) rfl rfl (.st hS0 2 rfl (by omega)) (pg za0) ?_
      refine zbD (cs:=[.i a0.Letters,.i a0.Numbers,.i a0.Pitch,.i a0.Slack,.i a0.Gap,.i a0.Pause,.i a0.Sparks,.sl .od 1 (a0.Times.map cI)]) (by decide) zh9 znY rfl ?_
      obtain ⟨r13,hr13,hM⟩:=zai hM
      refine zau (bs:=[.agg [.i a0.Letters,.i a0.Numbers,.i a0.Pitch,.i a0.Slack,.i a0.Gap,.i a0.Pause,.i a0.Sparks,.sl .od 1 (a0.Times.map cI)]]) (by decide) rfl rfl ((zg3 hr13).le (.cons (.aggL (.k (.k (.k (.k (.k (.k (.k (.cons (.sl _ _ _) .nil))))))))) .nil)) ?_
      refine za3 (v:=.sl .od 3 (a1.map WireFault.cells)) 1 hS (by decide) rfl rfl (.st hS0 1 rfl (by omega)) (po zi2 zkK) ?_
      refine Om (.i x12) ?_
      refine zaO (by decide) zcu rfl ?_
      refine za3 (v:=.i a0.Numbers) 2 hS (by decide) rfl rfl (.st hS0 2 rfl (by omega)) (po zab zaf) ?_
      obtain ⟨q14,hq14,hM⟩:=zai hM
      refine znM (by decide) rfl rfl (znN hq14) ?_
      refine Om (.i x12) ?_
      refine zaO (by decide) zcu rfl ?_
      refine za3 (v:=.i a0.Numbers) 2 hS (by decide) rfl rfl (.st hS0 2 rfl (by omega)) (po zab zaf) ?_
      obtain ⟨q15,hq15,hM⟩:=zai hM
      refine znM (by decide) rfl rfl (znO hq15) ?_
      obtain ⟨r16,hr16,hM⟩:=zai hM
      refine zau (bs:=[.agg (Wire.cells r13),.sl .od 3 (a1.map WireFault.cells),.i q14,.i q15]) (by decide) rfl rfl ((zmo hr16).le (.k (.cons (.sl _ _ _) (.k (.k .nil))))) ?_
      refine Om (.tup [.i r16.1,.i r16.2]) ?_
      refine Ox (.i r16.1) ?_
      refine Ox (.i r16.2) ?_
      obtain ⟨x17,hx17,hM⟩:=zai hM
      refine zou (xs:=v10) (z:=v9) (u:=x17) (by decide) rfl (zov hx17) rfl zaR (zj7 hx17) ?_
      refine zrS (f:=cI) (k:=1) (xs:=v10) (z:=v9) (u:=x17) (w:=r16.1) (v:=.i r16.1) (L':=[(g+4+8+2+7+2,.cells ((v10.set (Int.toNat v9) r16.1).map cI).flatten),(g+1,.cells [.sl .od 3 (a1.map WireFault.cells)]),(g+0,.cells [.i a0.Letters,.i a0.Numbers,.i a0.Pitch,.i a0.Slack,.i a0.Gap,.i a0.Pause,.i a0.Sparks,.sl .od 1 (a0.Times.map cI)])]) 0 hS rfl rfl (zj7 hx17) (.st hS0 0 rfl (by omega)) (fun _=>rfl) rfl rfl zf0 rfl fun H hS=>?_
      refine Ni ?_
      refine zae ?_
      refine Ws ?_
      refine Rg 2 ?_
      refine Oi (.i (w64 (v9+1))) ?_
      refine Om (.i (w64 (v9+1))) ?_
      refine Ni ?_
      exact zaW (w64 (v9+1),(v10.set (Int.toNat v9) r16.1)) (Nat.lt_succ_self _) (.k (.k (.k (.k (.k (.k .nil)))))) ⟨(hS.keep [true,true,true] rfl).up (by omega),hM⟩
     ·replace hM:=ifF hM hb11
      refine Cf hb11 ?_
      refine zbl ?_
      refine zap ?_
      refine zan ?_
      refine zat ?_
      exact zag v10 (.k .nil) ⟨(hS.keep [true,false,false] rfl).up (by omega),hM⟩
end Go.Proofs.Ytebfppngmmdfkaa
