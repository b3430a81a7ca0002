/-
  The code returns what the functions say (printed by gen.py).
  Conditions: none.
-/
import Derived.Test.YtclaalcoefcljaaWkTopCrossed2
import Derived.Test.YtclaalcoefcljaaAmPc
set_option linter.all false
namespace Go.Proofs.Ytclaalcoefcljaa
open Go Go.AM Go.Law
set_option linter.unusedVariables false
set_option maxRecDepth 4000
set_option maxHeartbeats 4000000
theorem zkB {a0:WireFault} {a1:WireFault} {r:Bool} (hM:zge a0 a1=some r):zaI Try.prog 62 [.agg (WireFault.cells a0),.agg (WireFault.cells a1)] (.b r):=by
 refine zaz mixed Try.func62 rfl (by decide) Try.ntmps62 (by simp) ?pure fun H0 g hf=>?_
 case pure=>exact .v _
 rw [zar]
 change wpA _ _ _ _ (Fr.of [(0,.agg (WireFault.cells a0)),(1,.agg (WireFault.cells a1))]) H0 g
 have hS:=St.start hf
 refine Sq ?_
 refine Rg 3 ?_
 refine zdI (v:=.agg (WireFault.cells a0)) (cs:=(WireFault.cells a0)) hS (by decide) rfl rfl (by omega) fun H hS=>?_
 refine zdI (v:=.agg (WireFault.cells a1)) (cs:=(WireFault.cells a1)) hS (by decide) rfl rfl (by omega) fun H hS=>?_
 refine Oa (.b false) ?_
 refine Ni ?_
 refine zb5 (L':=[(g+1,.cells (WireFault.cells a1))]) 1 2 hS rfl rfl rfl fun H hS=>?_
 refine zb5 (L':=[]) 0 3 hS rfl rfl rfl fun H hS=>?_
 refine Ws ?_
 refine zaJ (J:=Bool) (fun j=>[(4,.b j)]) (fun j H' g'=>St (·<g) H0 [] H' g'/\zcp j=some r) ?_ ?_
 ·rintro v1 H g1 ⟨hS,hM⟩
  change wpA _ _ _ _ (Fr.of [(4,.b v1)]) _ _
  replace hS:St (·<g) H0 [] H g1:=hS
  replace hM:zcp v1=some r:=hM
  refine za8 ?_
  refine zbq (x:=.b v1) (f:=fun r=>.b r) (.inr rfl) ?_ (.refl _) (Option.some.inj hM) hS
  exact (zay (zau (x:=.b v1) rfl))
 ·refine Rg 39 ?_
  refine Of ((WireFault.cells a0)) zdQ ?_
  refine Olp (.i a0.Kind) zai zav ?_
  refine Of ((WireFault.cells a1)) zdQ ?_
  refine Olp (.i a1.Kind) zai zav ?_
  refine Oi (.b (a0.Kind==a1.Kind)) ?_
  refine Om (.b (a0.Kind==a1.Kind)) ?_
  rcases bft (a0.Kind==a1.Kind) with hb2 | hb2
  ·replace hM:=ifT hM hb2
   refine Oy (want:=true) hb2 ?_
   refine Of ((WireFault.cells a0)) zdQ ?_
   refine Oy (want:=true) hb2 ?_
   refine Olp (.i a0.Kind) zai zav ?_
   refine Oy (want:=true) hb2 ?_
   refine Oi (.b (decide (a0.Kind≥3))) ?_
   refine Pt (.b (decide (a0.Kind≥3))) hb2 ?_
   refine Om (.b (decide (a0.Kind≥3))) ?_
   rcases bft (decide (a0.Kind≥3)) with hb3 | hb3
   ·replace hM:=ifT hM hb3
    refine Oy (want:=true) hb3 ?_
    refine Of ((WireFault.cells a0)) zcX ?_
    refine Oy (want:=true) hb3 ?_
    refine Olp (.i a0.A) zai zav ?_
    refine Oy (want:=true) hb3 ?_
    refine Of ((WireFault.cells a1)) zcX ?_
    refine Oy (want:=true) hb3 ?_
    refine Olp (.i a1.A) zai zav ?_
    refine Oy (want:=true) hb3 ?_
    refine Oi (.b (a0.A==a1.A)) ?_
    refine Oy (want:=true) hb3 ?_
    refine Om (.b (a0.A==a1.A)) ?_
    rcases bft (a0.A==a1.A) with hb4 | hb4
    ·replace hM:=ifT hM hb4
     refine On (want:=false) hb4 ?_
     refine On (want:=false) hb4 ?_
     refine On (want:=false) hb4 ?_
     refine On (want:=false) hb4 ?_
     refine On (want:=false) hb4 ?_
     refine Oy (want:=true) hb3 ?_
     refine Pt (.b true) hb4 ?_
     refine Oy (want:=true) hb3 ?_
     refine Om (.b true) ?_
     refine Og ?_
     refine Og ?_
     refine Og ?_
     refine Og ?_
     refine Og ?_
     refine Oy (want:=true) hb3 ?_
     refine zcA (v:=.b true) (e:=true) (by decide) rfl rfl rfl ?_
     refine Oy (want:=true) hb3 ?_
     refine Om (.b true) ?_
     refine Og ?_
     refine Og ?_
     refine Og ?_
     refine Og ?_
     refine Og ?_
     refine Oy (want:=true) hb3 ?_
     refine zcA (v:=.b true) (e:=true) (by decide) rfl rfl rfl ?_
     refine Pt (.b true) hb3 ?_
     refine Oa (.b true) ?_
     refine Ni ?_
     exact zah true (.k .nil) ⟨(hS.keep [] rfl).up (by omega),hM⟩
    ·replace hM:=ifF hM hb4
     refine Oy (want:=false) hb4 ?_
     refine Of ((WireFault.cells a0)) zcX ?_
     refine Oy (want:=false) hb4 ?_
     refine Olp (.i a0.A) zai zav ?_
     refine Oy (want:=false) hb4 ?_
     refine Of ((WireFault.cells a1)) zdq ?_
     refine Oy (want:=false) hb4 ?_
     refine Olp (.i a1.B) zai zav ?_
     refine Oy (want:=false) hb4 ?_
     refine Oi (.b (a0.A==a1.B)) ?_
     refine Oy (want:=true) hb3 ?_
     refine Pf (.b (a0.A==a1.B)) hb4 ?_
     refine Oy (want:=true) hb3 ?_
     refine Om (.b (a0.A==a1.B)) ?_
     rcases bft (a0.A==a1.B) with hb5 | hb5
     ·replace hM:=ifT hM hb5
      refine On (want:=false) hb5 ?_
      refine On (want:=false) hb5 ?_
      refine On (want:=false) hb5 ?_
      refine On (want:=false) hb5 ?_
      refine On (want:=false) hb5 ?_
      refine Oy (want:=true) hb3 ?_
      refine Pt (.b true) hb5 ?_
      refine Oy (want:=true) hb3 ?_
      refine Om (.b true) ?_
      refine Og ?_
      refine Og ?_
      refine Og ?_
      refine Og ?_
      refine Og ?_
      refine Oy (want:=true) hb3 ?_
      refine zcA (v:=.b true) (e:=true) (by decide) rfl rfl rfl ?_
      refine Pt (.b true) hb3 ?_
      refine Oa (.b true) ?_
      refine Ni ?_
      exact zah true (.k .nil) ⟨(hS.keep [] rfl).up (by omega),hM⟩
     ·replace hM:=ifF hM hb5
      refine Oy (want:=false) hb5 ?_
      refine Of ((WireFault.cells a0)) zdq ?_
      refine Oy (want:=false) hb5 ?_
      refine Olp (.i a0.B) zai zav ?_
      refine Oy (want:=false) hb5 ?_
      refine Of ((WireFault.cells a1)) zcX ?_
      refine Oy (want:=false) hb5 ?_
      refine Olp (.i a1.A) zai zav ?_
      refine Oy (want:=false) hb5 ?_
      refine Oi (.b (a0.B==a1.A)) ?_
      refine Oy (want:=true) hb3 ?_
      refine Pf (.b (a0.B==a1.A)) hb5 ?_
      refine Oy (want:=true) hb3 ?_
      refine Om (.b (a0.B==a1.A)) ?_
      rcases bft (a0.B==a1.A) with hb6 | hb6
      ·replace hM:=ifT hM hb6
       refine On (want:=false) hb6 ?_
       refine On (want:=false) hb6 ?_
       refine On (want:=false) hb6 ?_
       refine On (want:=false) hb6 ?_
       refine On (want:=false) hb6 ?_
       refine Oy (want:=true) hb3 ?_
       refine Pt (.b true) hb6 ?_
       refine Pt (.b true) hb3 ?_
       refine Oa (.b true) ?_
       refine Ni ?_
       exact zah true (.k .nil) ⟨(hS.keep [] rfl).up (by omega),hM⟩
      ·replace hM:=ifF hM hb6
       refine Oy (want:=false) hb6 ?_
       refine Of ((WireFault.cells a0)) zdq ?_
       refine Oy (want:=false) hb6 ?_
       refine Olp (.i a0.B) zai zav ?_
       refine Oy (want:=false) hb6 ?_
       refine Of ((WireFault.cells a1)) zdq ?_
       refine Oy (want:=false) hb6 ?_
       refine Olp (.i a1.B) zai zav ?_
       refine Oy (want:=false) hb6 ?_
       refine Oi (.b (a0.B==a1.B)) ?_
       refine Oy (want:=true) hb3 ?_
       refine Pf (.b (a0.B==a1.B)) hb6 ?_
       refine Pt (.b (a0.B==a1.B)) hb3 ?_
       refine Oa (.b (a0.B==a1.B)) ?_
       refine Ni ?_
       exact zah (a0.B==a1.B) (.k .nil) ⟨(hS.keep [] rfl).up (by omega),hM⟩
   ·replace hM:=ifF hM hb3
    refine On (want:=true) hb3 ?_
    refine On (want:=true) hb3 ?_
    refine On (want:=true) hb3 ?_
    refine On (want:=true) hb3 ?_
    refine On (want:=true) hb3 ?_
    refine On (want:=true) hb3 ?_
    refine zaj (j:=16) (by decide) rfl ?_
    refine zaj (j:=16) (by decide) rfl ?_
    refine zaj (j:=16) (by decide) rfl ?_
    refine zaj (j:=16) (by decide) rfl ?_
    refine zaj (j:=16) (by decide) rfl ?_
    refine On (want:=true) hb3 ?_
    refine On (want:=true) hb3 ?_
    refine zaj (j:=23) (by decide) rfl ?_
    refine zaj (j:=23) (by decide) rfl ?_
    refine zaj (j:=23) (by decide) rfl ?_
    refine zaj (j:=23) (by decide) rfl ?_
    refine zaj (j:=23) (by decide) rfl ?_
    refine On (want:=true) hb3 ?_
    refine On (want:=true) hb3 ?_
    refine zaj (j:=30) (by decide) rfl ?_
    refine zaj (j:=30) (by decide) rfl ?_
    refine zaj (j:=30) (by decide) rfl ?_
    refine zaj (j:=30) (by decide) rfl ?_
    refine zaj (j:=30) (by decide) rfl ?_
    refine On (want:=true) hb3 ?_
    refine Pf (.b false) hb3 ?_
    refine Oa (.b false) ?_
    refine Ni ?_
    exact zah false (.k .nil) ⟨(hS.keep [] rfl).up (by omega),hM⟩
  ·replace hM:=ifF hM hb2
   refine On (want:=true) hb2 ?_
   refine On (want:=true) hb2 ?_
   refine On (want:=true) hb2 ?_
   refine Pf (.b false) hb2 ?_
   refine Om (.b false) ?_
   refine Og ?_
   refine Og ?_
   refine Og ?_
   refine Og ?_
   refine Og ?_
   refine Og ?_
   refine zaj (j:=16) (by decide) rfl ?_
   refine zaj (j:=16) (by decide) rfl ?_
   refine zaj (j:=16) (by decide) rfl ?_
   refine zaj (j:=16) (by decide) rfl ?_
   refine zaj (j:=16) (by decide) rfl ?_
   refine Og ?_
   refine Og ?_
   refine zaj (j:=23) (by decide) rfl ?_
   refine zaj (j:=23) (by decide) rfl ?_
   refine zaj (j:=23) (by decide) rfl ?_
   refine zaj (j:=23) (by decide) rfl ?_
   refine zaj (j:=23) (by decide) rfl ?_
   refine Og ?_
   refine Og ?_
   refine zaj (j:=30) (by decide) rfl ?_
   refine zaj (j:=30) (by decide) rfl ?_
   refine zaj (j:=30) (by decide) rfl ?_
   refine zaj (j:=30) (by decide) rfl ?_
   refine zaj (j:=30) (by decide) rfl ?_
   refine Og ?_
   refine zbl (v:=.b false) (e:=false) (by decide) rfl rfl rfl ?_
   refine Oa (.b false) ?_
   refine Ni ?_
   exact zah false (.k .nil) ⟨(hS.keep [] rfl).up (by omega),hM⟩
theorem zeI {a0:WireFault} {a1:WireFault} {r:Bool} (hM:zbe a0 a1=some r):zaI Try.prog 61 [.agg (WireFault.cells a0),.ep (WireFault.cells a1)] (.b r):=by
 refine zaz mixed Try.func61 rfl (by decide) Try.ntmps61 (by simp) ?pure fun H0 g hf=>?_
 case pure=>exact .v _
 rw [zar]
 change wpA _ _ _ _ (Fr.of [(0,.agg (WireFault.cells a0)),(1,.ep (WireFault.cells a1))]) H0 g
 have hS:=St.start hf
 refine Sq ?_
 refine Rg 2 ?_
 refine zdI (v:=.agg (WireFault.cells a0)) (cs:=(WireFault.cells a0)) hS (by decide) rfl rfl (by omega) fun H hS=>?_
 refine Oa (.b false) ?_
 refine Ni ?_
 refine zb5 (L':=[]) 0 2 hS rfl rfl rfl fun H hS=>?_
 refine Ws ?_
 refine Sq ?_
 refine Rg 4 ?_
 refine Olg (.agg (WireFault.cells a1)) zcE ?_
 refine Olg (.agg (WireFault.cells a0)) zcE ?_
 obtain ⟨r1,hr1,hM⟩:=zat hM
 refine zaU (bs:=[.agg (WireFault.cells a1),.agg (WireFault.cells a0)]) (by decide) rfl rfl ((zkB hr1).le (.k (.k .nil))) ?_
 refine Oa (.b r1) ?_
 refine Ni ?_
 refine zhH [(3,.b r1)] (.k .nil) ?_
 refine za8 ?_
 refine zbq (x:=.b r1) (f:=fun r=>.b r) (.inr rfl) ?_ (.refl _) (Option.some.inj hM) hS
 exact (zay (zau (x:=.b r1) rfl))
theorem zg4 {n:Nat} {a0:Option Wiring_} {a1:List WireFault} {r:Bool} (hM:zdy n a0 a1=some r):zaI Try.prog 36 [pA Wiring_.cells a0,.sl .no 3 (a1.map WireFault.cells)] (.b r):=by
 refine zaz mixed Try.func36 rfl (by decide) Try.ntmps36 (by simp) ?pure fun H0 g hf=>?_
 case pure=>exact .v _
 rw [zar]
 change wpA _ _ _ _ (Fr.of [(0,pA Wiring_.cells a0),(1,.sl .no 3 (a1.map WireFault.cells))]) H0 g
 have hS:=St.start hf
 refine Sq ?_
 refine Rg 1 ?_
 refine Oa (.b false) ?_
 refine Ni ?_
 refine Ws ?_
 refine zaJ (J:=Unit) (fun j=>[]) (fun j H' g'=>St (·<g) H0 [] H' g'/\zcS=some r) ?_ ?_
 ·rintro _ H g1 ⟨hS,hM⟩
  change wpA _ _ _ _ (Fr.of []) _ _
  replace hS:St (·<g) H0 [] H g1:=hS
  replace hM:zcS=some r:=hM
  refine Sq ?_
  refine Rg 1 ?_
  refine Oa (.b true) ?_
  refine Ni ?_
  refine Ws ?_
  refine za8 ?_
  refine zbq (x:=.b true) (f:=fun r=>.b r) (.inr rfl) ?_ (.refl _) (Option.some.inj hM) hS
  exact (zay (zau (x:=.b true) rfl))
 ·refine Sq ?_
  refine Rg 3 ?_
  refine Om (.sl .no 3 (a1.map WireFault.cells)) ?_
  refine zc7 (n:=a1.length) (by decide) rfl (List.length_map _) zfp ?_
  refine Om (.i 0) ?_
  refine Ni ?_
  refine Ws ?_
  refine zas ?_
  refine zbV (V:=Int) (fun v=>[(0,pA Wiring_.cells a0),(1,.sl .no 3 (a1.map WireFault.cells)),(7,.sl .no 3 (a1.map WireFault.cells)),(8,.i (a1.length:Int)),(9,.i v)]) (fun v m2 H' g'=>St (·<g) H0 [] H' g'/\za0 n a0 a1 m2 v=some r) (n:=n) 0 (.k (.k (.k (.k (.k .nil))))) ⟨(hS.keep [] rfl).up (by omega),hM⟩ ?_
  rintro v1 m2 H g2 ⟨hS,hM⟩
  obtain _ | m2:=m2
  ·exact nomatch (show none=some _ from hM)
  change wpA _ _ _ _ (Fr.of [(0,pA Wiring_.cells a0),(1,.sl .no 3 (a1.map WireFault.cells)),(7,.sl .no 3 (a1.map WireFault.cells)),(8,.i (a1.length:Int)),(9,.i v1)]) _ _
  replace hS:St (·<g) H0 [] H g2:=hS
  replace hM:zcB n a0 a1 (za0 n a0 a1 m2) v1=some r:=hM
  refine Sq ?_
  refine Rg 1 ?_
  refine Oi (.b (decide (v1<(a1.length:Int)))) ?_
  refine Ni ?_
  refine Ws ?_
  refine Sq ?_
  rcases bft (decide (v1<(a1.length:Int))) with hb2 | hb2
  ·replace hM:=ifT hM hb2
   refine Ct hb2 ?_
   refine zaF ?_
   refine Ws ?_
   refine Sq ?_
   refine zas ?_
   refine Sq ?_
   refine Rg 6 ?_
   refine Om (.i v1) ?_
   obtain ⟨x3,hx3,hM⟩:=zat hM
   refine zce (xs:=a1) (f:=WireFault.cells) (z:=v1) (u:=x3) (by decide) rfl rfl zb0 hx3 ?_
   refine Olg (.agg (WireFault.cells x3)) zcE ?_
   refine zfA hS (by decide) zec (by omega) fun H hS=>?_
   refine Oa (.i v1) ?_
   refine zbZ (v:=.agg (WireFault.cells x3)) (ns:=(WireFault.cells x3)) (L':=[(g2+1+3,.cells (WireFault.cells x3))]) 0 hS rfl rfl .no rfl rfl zkr nlb rfl fun H hS=>?_
   refine Ni ?_
   refine zb5 (L':=[]) 0 6 hS rfl rfl rfl fun H hS=>?_
   refine Ws ?_
   refine zaJ (J:=Bool) (fun j=>[(0,pA Wiring_.cells a0),(1,.sl .no 3 (a1.map WireFault.cells)),(7,.sl .no 3 (a1.map WireFault.cells)),(8,.i (a1.length:Int)),(9,.i v1),(41,.b j)]) (fun j H' g'=>St (·<g) H0 [] H' g'/\zby (za0 n a0 a1 m2) v1 j=some r) ?_ ?_
   ·rintro v4 H g3 ⟨hS,hM⟩
    change wpA _ _ _ _ (Fr.of [(0,pA Wiring_.cells a0),(1,.sl .no 3 (a1.map WireFault.cells)),(7,.sl .no 3 (a1.map WireFault.cells)),(8,.i (a1.length:Int)),(9,.i v1),(41,.b v4)]) _ _
    replace hS:St (·<g) H0 [] H g3:=hS
    replace hM:zby (za0 n a0 a1 m2) v1 v4=some r:=hM
    rcases bft v4 with hb5 | hb5
    ·replace hM:=ifT hM hb5
     refine Ct hb5 ?_
     refine Sq ?_
     refine Rg 1 ?_
     refine Oa (.b false) ?_
     refine Ni ?_
     refine Ws ?_
     refine za8 ?_
     refine zaS ?_
     refine zaC ?_
     refine zbG ?_
     refine zaS ?_
     refine zci ?_
     refine zbq (x:=.b false) (f:=fun r=>.b r) (.inr rfl) ?_ (.refl _) (Option.some.inj hM) hS
     exact (zay (zau (x:=.b false) rfl))
    ·replace hM:=ifF hM hb5
     refine Cf hb5 ?_
     refine zaF ?_
     refine zae ?_
     refine Ws ?_
     refine Rg 2 ?_
     refine Oi (.i (w64 (v1+1))) ?_
     refine Om (.i (w64 (v1+1))) ?_
     refine Ni ?_
     exact zbg (w64 (v1+1)) (Nat.lt_succ_self _) (.k (.k (.k (.k (.k .nil))))) ⟨(hS.keep [] rfl).up (by omega),hM⟩
   ·have hS0:=hS
    refine zd6 (n:=28) rfl (by kernel_rfl) ?_
    refine Om (pA Wiring_.cells a0) ?_
    obtain ⟨x6,hx6,hM⟩:=zat hM
    refine zqt (f:=Wiring_.cells) (p:=a0) (u:=x6) (by decide) rfl hx6 ?_
    refine Of ((Wiring_.cells x6)) zf2 ?_
    refine Olp (.sl .no 3 (x6.all.map WireFault.cells)) zkq zlT ?_
    refine Olg (.agg (WireFault.cells x3)) zcE ?_
    obtain ⟨r7,hr7,hM⟩:=zat hM
    refine zaU (bs:=[.sl .no 3 (x6.all.map WireFault.cells),.agg (WireFault.cells x3)]) (by decide) rfl rfl ((ze2 hr7).le (.k (.k .nil))) ?_
    refine zfY (e:=r7) (by decide) rfl ?_
    refine Om (.b (!r7)) ?_
    rcases bft (!r7) with hb8 | hb8
    ·replace hM:=ifT hM hb8
     refine On (want:=false) hb8 ?_
     refine On (want:=false) hb8 ?_
     refine On (want:=false) hb8 ?_
     refine zaj (j:=10) (by decide) rfl ?_
     refine zaj (j:=10) (by decide) rfl ?_
     refine zaj (j:=10) (by decide) rfl ?_
     refine zaj (j:=10) (by decide) rfl ?_
     refine zaj (j:=10) (by decide) rfl ?_
     refine zaj (j:=10) (by decide) rfl ?_
     refine zaj (j:=10) (by decide) rfl ?_
     refine zaj (j:=10) (by decide) rfl ?_
     refine On (want:=false) hb8 ?_
     refine Pt (.b true) hb8 ?_
     refine Om (.b true) ?_
     refine Og ?_
     refine Og ?_
     refine Og ?_
     refine Og ?_
     refine Og ?_
     refine zcA (v:=.b true) (e:=true) (by decide) rfl rfl rfl ?_
     refine Ni ?_
     exact zah true (.k (.k (.k (.k (.k (.k .nil)))))) ⟨(hS.keep [] rfl).up (by omega),hM⟩
    ·replace hM:=ifF hM hb8
     refine Oy (want:=false) hb8 ?_
     refine Om (.i v1) ?_
     refine Oy (want:=false) hb8 ?_
     refine Oi (.b (decide (v1>0))) ?_
     refine Oy (want:=false) hb8 ?_
     refine Om (.b (decide (v1>0))) ?_
     rcases bft (decide (v1>0)) with hb9 | hb9
     ·replace hM:=ifT hM hb9
      refine Oy (want:=true) hb9 ?_
      refine Om (.sl .no 3 (a1.map WireFault.cells)) ?_
      refine Oy (want:=true) hb9 ?_
      refine Om (.i v1) ?_
      refine Oy (want:=true) hb9 ?_
      refine Oi (.i (w64 (v1-1))) ?_
      refine Oy (want:=true) hb9 ?_
      obtain ⟨x10,hx10,hM⟩:=zat hM
      refine zce (xs:=a1) (f:=WireFault.cells) (z:=(w64 (v1-1))) (u:=x10) (by decide) rfl rfl zb0 hx10 ?_
      refine Oy (want:=true) hb9 ?_
      refine Olg (.agg (WireFault.cells x10)) zcE ?_
      refine Oy (want:=true) hb9 ?_
      refine Olg (.agg (WireFault.cells x3)) zcE ?_
      refine Oy (want:=true) hb9 ?_
      obtain ⟨r11,hr11,hM⟩:=zat hM
      refine zaU (bs:=[.agg (WireFault.cells x10),.agg (WireFault.cells x3)]) (by decide) rfl rfl ((zkA hr11).le (.k (.k .nil))) ?_
      refine Oy (want:=true) hb9 ?_
      refine Oi (.b (decide (r11≥0))) ?_
      refine Oy (want:=false) hb8 ?_
      refine Pt (.b (decide (r11≥0))) hb9 ?_
      refine Pf (.b (decide (r11≥0))) hb8 ?_
      refine Om (.b (decide (r11≥0))) ?_
      rcases bft (decide (r11≥0)) with hb12 | hb12
      ·replace hM:=ifT hM hb12
       refine On (want:=false) hb12 ?_
       refine On (want:=false) hb12 ?_
       refine On (want:=false) hb12 ?_
       refine On (want:=false) hb12 ?_
       refine On (want:=false) hb12 ?_
       refine Pt (.b true) hb12 ?_
       refine Ni ?_
       exact zah true (.k (.k (.k (.k (.k (.k .nil)))))) ⟨(hS.keep [] rfl).up (by omega),hM⟩
      ·replace hM:=ifF hM hb12
       refine Oy (want:=false) hb12 ?_
       refine Om (.sl .no 3 (a1.map WireFault.cells)) ?_
       refine Oy (want:=false) hb12 ?_
       refine Om (.i v1) ?_
       refine Oy (want:=false) hb12 ?_
       obtain ⟨c13,hc13,hM⟩:=zat hM
       refine zlJ (xs:=a1) (ys:=c13) (f:=WireFault.cells) (p:=0) (q:=v1) (by decide) rfl zb0 (.inl ⟨rfl,rfl⟩) (.inr rfl) hc13 ?_
       refine Oy (want:=false) hb12 ?_
       refine zh4 (first:=[]) (cap:=[.ep (WireFault.cells x3)]) (by decide) rfl rfl ?_
       refine Oy (want:=false) hb12 ?_
       obtain ⟨r14,hr14,hM⟩:=zat hM
       refine zaU (bs:=[.sl .no 3 (c13.map WireFault.cells),.fn (.func 61) [] [.ep (WireFault.cells x3)]]) (by decide) rfl rfl (zgy ((zcM (Lo:=(fun (_:Unit)=>[]))  (fun _ _=>zgw) (fun _=>List.nodup_nil) (fun _=>zgv) (aF:=(fun (x0:WireFault) (_:Unit)=>(zbe x0 x3).map fun y=>(y,()))) (fun _ H hH=>(.fn _ _ _ zgx (zeM (.ep _ (zeM (show Go.AM.Pure _ from .v _).inH (zeM (show Go.AM.Pure _ from .v _).inH (zeM (show Go.AM.Pure _ from .v _).inH zgx)))) zgx))) rfl (fun h=>ziw (zeI (zhI h))) hr14).le (.k (.k .nil)))) ?_
       refine Pf (.b r14.1) hb12 ?_
       refine Ni ?_
       exact zah r14.1 (.k (.k (.k (.k (.k (.k .nil)))))) ⟨(hS.keep [] rfl).up (by omega),hM⟩
     ·replace hM:=ifF hM hb9
      refine On (want:=true) hb9 ?_
      refine On (want:=true) hb9 ?_
      refine On (want:=true) hb9 ?_
      refine On (want:=true) hb9 ?_
      refine On (want:=true) hb9 ?_
      refine On (want:=true) hb9 ?_
      refine On (want:=true) hb9 ?_
      refine On (want:=true) hb9 ?_
      refine Oy (want:=false) hb8 ?_
      refine Pf (.b false) hb9 ?_
      refine Pf (.b false) hb8 ?_
      refine Om (.b false) ?_
      refine Oz ?_
      refine Om (.sl .no 3 (a1.map WireFault.cells)) ?_
      refine Oz ?_
      refine Om (.i v1) ?_
      refine Oz ?_
      obtain ⟨c15,hc15,hM⟩:=zat hM
      refine zlJ (xs:=a1) (ys:=c15) (f:=WireFault.cells) (p:=0) (q:=v1) (by decide) rfl zb0 (.inl ⟨rfl,rfl⟩) (.inr rfl) hc15 ?_
      refine Oz ?_
      refine zh4 (first:=[]) (cap:=[.ep (WireFault.cells x3)]) (by decide) rfl rfl ?_
      refine Oz ?_
      obtain ⟨r16,hr16,hM⟩:=zat hM
      refine zaU (bs:=[.sl .no 3 (c15.map WireFault.cells),.fn (.func 61) [] [.ep (WireFault.cells x3)]]) (by decide) rfl rfl (zgy ((zcM (Lo:=(fun (_:Unit)=>[]))  (fun _ _=>zgw) (fun _=>List.nodup_nil) (fun _=>zgv) (aF:=(fun (x0:WireFault) (_:Unit)=>(zbe x0 x3).map fun y=>(y,()))) (fun _ H hH=>(.fn _ _ _ zgx (zeM (.ep _ (zeM (show Go.AM.Pure _ from .v _).inH (zeM (show Go.AM.Pure _ from .v _).inH (zeM (show Go.AM.Pure _ from .v _).inH zgx)))) zgx))) rfl (fun h=>ziw (zeI (zhI h))) hr16).le (.k (.k .nil)))) ?_
      refine zbl (v:=.b r16.1) (e:=false) (by decide) rfl rfl rfl ?_
      refine Ni ?_
      exact zah r16.1 (.k (.k (.k (.k (.k (.k .nil)))))) ⟨(hS.keep [] rfl).up (by omega),hM⟩
  ·replace hM:=ifF hM hb2
   refine Cf hb2 ?_
   refine zbS ?_
   refine zaq ?_
   refine zam ?_
   refine zaA ?_
   exact zah () .nil ⟨(hS.keep [] rfl).up (by omega),hM⟩
theorem zg5 {a0:Option Wiring_} {a1:Panel_} {a2:Int} {a3:Int} {r:Int} (hM:zdz a0 a1 a2 a3=some r):zaI Try.prog 38 [pA Wiring_.cells a0,.agg (Panel_.cells a1),.i a2,.i a3] (.i r):=by
 refine zaz mixed Try.func38 rfl (by decide) Try.ntmps38 (by simp) ?pure fun H0 g hf=>?_
 case pure=>exact .v _
 rw [zar]
 change wpA _ _ _ _ (Fr.of [(0,pA Wiring_.cells a0),(1,.agg (Panel_.cells a1)),(2,.i a2),(3,.i a3)]) H0 g
 have hS:=St.start hf
 refine Sq ?_
 refine Rg 2 ?_
 refine zdI (v:=.agg (Panel_.cells a1)) (cs:=(Panel_.cells a1)) hS (by decide) rfl rfl (by omega) fun H hS=>?_
 refine Oa (.i 0) ?_
 refine Ni ?_
 refine zb5 (L':=[]) 0 5 hS rfl rfl rfl fun H hS=>?_
 refine Ws ?_
 refine Sq ?_
 have hS0:=hS
 refine zd6 (n:=10) rfl (by kernel_rfl) ?_
 refine Om (.i a2) ?_
 refine Of ((Panel_.cells a1)) zhU ?_
 obtain ⟨x1,hx1,hM⟩:=zat hM
 refine zk2 (cs:=(Panel_.cells a1)) (z:=a2) (by decide) rfl rfl zfR (zha hx1) ?_
 refine zkc (v:=.i x1) (by decide) rfl (zlS (xs:=([a1.letters.c0,a1.letters.c1,a1.letters.c2,a1.letters.c3,a1.letters.c4]:List Int)) zai zav rfl hx1) ?_
 refine Om (.i a3) ?_
 refine Of ((Panel_.cells a1)) zhV ?_
 obtain ⟨x2,hx2,hM⟩:=zat hM
 refine zk2 (cs:=(Keys_.cells a1.numbers)) (z:=a3) (by decide) rfl rfl zfR (zha hx2) ?_
 refine zkc (v:=.i x2) (by decide) rfl (zlS (xs:=([a1.numbers.c0,a1.numbers.c1,a1.numbers.c2,a1.numbers.c3,a1.numbers.c4]:List Int)) zai zav rfl hx2) ?_
 refine Oa (.i x1) ?_
 refine Oa (.i x2) ?_
 refine Ni ?_
 refine Ws ?_
 refine Sq ?_
 refine zaJ (J:=Bool) (fun j=>[(0,pA Wiring_.cells a0),(9,.i x1),(10,.i x2),(24,.b j)]) (fun j H' g'=>St (·<g) H0 [] H' g'/\zcr a0 x1 x2 j=some r) ?_ ?_
 ·rintro v3 H g1 ⟨hS,hM⟩
  change wpA _ _ _ _ (Fr.of [(0,pA Wiring_.cells a0),(9,.i x1),(10,.i x2),(24,.b v3)]) _ _
  replace hS:St (·<g) H0 [] H g1:=hS
  replace hM:zcr a0 x1 x2 v3=some r:=hM
  rcases bft v3 with hb4 | hb4
  ·replace hM:=ifT hM hb4
   refine Ct hb4 ?_
   refine Sq ?_
   refine Rg 1 ?_
   refine Oa (.i (-1)) ?_
   refine Ni ?_
   refine Ws ?_
   refine za8 ?_
   refine zaC ?_
   refine zbq (x:=.i (-1)) (f:=fun r=>.i r) (.inr rfl) ?_ (.refl _) (Option.some.inj hM) hS
   exact (zay (zau (x:=.i (-1)) rfl))
  ·replace hM:=ifF hM hb4
   refine Cf hb4 ?_
   refine zaF ?_
   refine Ws ?_
   refine Sq ?_
   refine Rg 10 ?_
   refine Om (.i x1) ?_
   refine Om (pA Wiring_.cells a0) ?_
   obtain ⟨x5,hx5,hM⟩:=zat hM
   refine zqt (f:=Wiring_.cells) (p:=a0) (u:=x5) (by decide) rfl hx5 ?_
   refine Of ((Wiring_.cells x5)) znp ?_
   refine Of ((Wiring_.cells x5)) ze1 ?_
   refine Olp (.i x5.Wire.Numbers) zai zav ?_
   refine Oi (.i (w64 (x1*x5.Wire.Numbers))) ?_
   refine Om (.i x2) ?_
   refine Oi (.i (w64 ((w64 (x1*x5.Wire.Numbers))+x2))) ?_
   refine Oa (.i (w64 ((w64 (x1*x5.Wire.Numbers))+x2))) ?_
   refine Ni ?_
   refine Ws ?_
   refine za8 ?_
   refine zbq (x:=.i (w64 ((w64 (x1*x5.Wire.Numbers))+x2))) (f:=fun r=>.i r) (.inr rfl) ?_ (.refl _) (Option.some.inj hM) hS
   exact (zay (zau (x:=.i (w64 ((w64 (x1*x5.Wire.Numbers))+x2))) rfl))
 ·refine Rg 6 ?_
  refine Om (.i x1) ?_
  refine Oi (.b (decide (x1<0))) ?_
  refine Om (.b (decide (x1<0))) ?_
  rcases bft (decide (x1<0)) with hb6 | hb6
  ·replace hM:=ifT hM hb6
   refine On (want:=false) hb6 ?_
   refine On (want:=false) hb6 ?_
   refine Pt (.b true) hb6 ?_
   refine Ni ?_
   exact zah true (.k (.k (.k (.k .nil)))) ⟨(hS.keep [] rfl).up (by omega),hM⟩
  ·replace hM:=ifF hM hb6
   refine Oy (want:=false) hb6 ?_
   refine Om (.i x2) ?_
   refine Oy (want:=false) hb6 ?_
   refine Oi (.b (decide (x2<0))) ?_
   refine Pf (.b (decide (x2<0))) hb6 ?_
   refine Ni ?_
   exact zah (decide (x2<0)) (.k (.k (.k (.k .nil)))) ⟨(hS.keep [] rfl).up (by omega),hM⟩
theorem zgM {xs u:List Int} {off:Nat} {a1:WireFault} {p:Nat} (hM:zcT xs off a1=some u):zhz Try.prog 63 [.ptr p off,.agg a1.cells] p (xs.map vI) (.tup []) ((List.range xs.length).map fun q=>vI (u.getD q 0)):=by
 unfold zcT at hM
 split at hM
 case isFalse=>cases hM
 case isTrue hab =>
 obtain ⟨hA,hB,hx⟩:=hab
 injection hM with hM
 have hul:u.length=xs.length:=by rw [←hM];simp
 rw [←hul,zhb]
 refine znZ mixed Try.func63 rfl (by decide) Try.ntmps63 (by simp) (.tup _ zaZ) (fun c hc=>by obtain ⟨x,_,rfl⟩:=List.mem_map.1 hc;exact .v _) fun H0 g hf hp=>?_
 rw [zar]
 change wpA _ _ _ _ (Fr.of [(0,.ptr p off),(1,.agg a1.cells)]) H0 g
 have hS:=St.startP hf hp
 refine Sq ?_
 refine Rg 1 ?_
 refine zdI (v:=.agg a1.cells) (cs:=a1.cells) hS (by decide) rfl rfl (by omega) fun H hS=>?_
 refine Ni ?_
 refine zb5 (L':=[(p,.cells (xs.map vI))]) 0 3 hS rfl rfl rfl fun H hS=>?_
 refine Ws ?_
 have hS0:=hS
 refine zqQ (n:=16) [(15,8),(15,12)] rfl (by kernel_rfl) (by kernel_rfl) ?_
 refine Om (.ptr p off) ?_
 refine Of (a1.cells) zcX ?_
 refine Olp (.i a1.A) zai zav ?_
 refine Om (.ptr p off) ?_
 refine Of (a1.cells) zdq ?_
 refine Olp (.i a1.B) zai zav ?_
 refine Of (a1.cells) zdq ?_
 refine Olp (.i a1.B) zai zav ?_
 refine Of (a1.cells) zcX ?_
 refine Olp (.i a1.A) zai zav ?_
 refine zbm (by decide) rfl ?_
 refine zgT (z:=a1.A) (by decide) rfl rfl zfR hA ?_
 refine zbZ (v:=.i a1.B) (ns:=[.i a1.B]) (L':=[(p,.cells (zcJ (xs.map vI) (off+a1.A.toNat*1) [.i a1.B]))]) 0 hS rfl rfl (.st hS0 0 rfl (by omega)) rfl rfl zem (by simp;omega) rfl fun H hS=>?_
 refine zbm (by decide) rfl ?_
 refine zgT (z:=a1.B) (by decide) rfl rfl zfR hB ?_
 have e1:zcJ (xs.map vI) (off+a1.A.toNat*1) [.i a1.B]=(xs.set (off+a1.A.toNat) a1.B).map vI:=by
  rw [zh5 (by simp;omega),List.map_set,Nat.mul_one]
  rfl
 rw [e1] at hS
 refine zbZ (v:=.i a1.A) (ns:=[.i a1.A]) (L':=[(p,.cells (zcJ ((xs.set (off+a1.A.toNat) a1.B).map vI) (off+a1.B.toNat*1) [.i a1.A]))]) 0 hS rfl rfl (.st hS0 0 rfl (by omega)) rfl rfl zem (by simp;omega) rfl fun H hS=>?_
 have e2:zcJ ((xs.set (off+a1.A.toNat) a1.B).map vI) (off+a1.B.toNat*1) [.i a1.A]=u.map vI:=by
  rw [zh5 (by simp;omega),←hM,Nat.mul_one]
  simp only [List.map_set]
  rfl
 rw [e2] at hS
 refine Ni ?_
 refine ⟨(zmh trivial (zmh trivial zqY)),?_⟩
 exact ⟨.inl rfl,⟨_,rfl,.refl _⟩,fun i hi=>(hS.old i hi).2,hS.get (n:=0) rfl⟩
theorem zlf {n:Nat} {a0:List WireFault} {r:Panel_} (hM:zgX n a0=some r):zaI Try.prog 39 [.sl .no 3 (a0.map WireFault.cells)] (.agg [.i r.letters.c0,.i r.letters.c1,.i r.letters.c2,.i r.letters.c3,.i r.letters.c4,.i r.numbers.c0,.i r.numbers.c1,.i r.numbers.c2,.i r.numbers.c3,.i r.numbers.c4]):=by
 refine zaz mixed Try.func39 rfl (by decide) Try.ntmps39 (by simp) ?pure fun H0 g hf=>?_
 case pure=>exact .agg _ (zaf (.v _) (zaf (.v _) (zaf (.v _) (zaf (.v _) (zaf (.v _) (zaf (.v _) (zaf (.v _) (zaf (.v _) (zaf (.v _) (zaf (.v _) zaZ))))))))))
 rw [zar]
 change wpA _ _ _ _ (Fr.of [(0,.sl .no 3 (a0.map WireFault.cells))]) H0 g
 have hS:=St.start hf
 refine Sq ?_
 refine Rg 1 ?_
 refine zfA hS (by decide) zk9 (by omega) fun H hS=>?_
 refine Ni ?_
 refine Ws ?_
 refine Sq ?_
 refine Rg 1 ?_
 refine zfA hS (by decide) zk9 (by omega) fun H hS=>?_
 refine Ni ?_
 refine Ws ?_
 refine zaJ (J:=Int×Int×Int×Int×Int×Int×Int×Int×Int×Int) (fun j=>[(0,.sl .no 3 (a0.map WireFault.cells)),(2,.ptr (g+0) 0),(3,.ptr (g+1+0) 0)]) (fun j H' g'=>St (·<g) H0 [(g+1+0,.cells [.i j.1,.i j.2.1,.i j.2.2.1,.i j.2.2.2.1,.i j.2.2.2.2.1,.i j.2.2.2.2.2.1,.i j.2.2.2.2.2.2.1,.i j.2.2.2.2.2.2.2.1,.i j.2.2.2.2.2.2.2.2.1,.i j.2.2.2.2.2.2.2.2.2]),(g+0,.cells [.i 0,.i 0,.i 0,.i 0,.i 0,.i 0,.i 0,.i 0,.i 0,.i 0])] H' g'/\zd0 n a0 j.1 j.2.1 j.2.2.1 j.2.2.2.1 j.2.2.2.2.1 j.2.2.2.2.2.1 j.2.2.2.2.2.2.1 j.2.2.2.2.2.2.2.1 j.2.2.2.2.2.2.2.2.1 j.2.2.2.2.2.2.2.2.2=some r) ?_ ?_
 ·rintro ⟨v1,v2,v3,v4,v5,v6,v7,v8,v9,v10⟩ H g1 ⟨hS,hM⟩
  change wpA _ _ _ _ (Fr.of [(0,.sl .no 3 (a0.map WireFault.cells)),(2,.ptr (g+0) 0),(3,.ptr (g+1+0) 0)]) _ _
  replace hS:St (·<g) H0 [(g+1+0,.cells [.i v1,.i v2,.i v3,.i v4,.i v5,.i v6,.i v7,.i v8,.i v9,.i v10]),(g+0,.cells [.i 0,.i 0,.i 0,.i 0,.i 0,.i 0,.i 0,.i 0,.i 0,.i 0])] H g1:=hS
  replace hM:zd0 n a0 v1 v2 v3 v4 v5 v6 v7 v8 v9 v10=some r:=hM
  refine Sq ?_
  refine Rg 1 ?_
  refine Oa (.fn (.func 63) [] []) ?_
  refine Ni ?_
  refine Ws ?_
  refine zaJ (J:=Int×Int×Int×Int×Int×Int×Int×Int×Int×Int) (fun j=>[(0,.sl .no 3 (a0.map WireFault.cells)),(2,.ptr (g+0) 0),(3,.ptr (g+1+0) 0)]) (fun j H' g'=>St (·<g) H0 [(g+1+0,.cells [.i j.1,.i j.2.1,.i j.2.2.1,.i j.2.2.2.1,.i j.2.2.2.2.1,.i j.2.2.2.2.2.1,.i j.2.2.2.2.2.2.1,.i j.2.2.2.2.2.2.2.1,.i j.2.2.2.2.2.2.2.2.1,.i j.2.2.2.2.2.2.2.2.2]),(g+0,.cells [.i 0,.i 0,.i 0,.i 0,.i 0,.i 0,.i 0,.i 0,.i 0,.i 0])] H' g'/\zez n a0 j.1 j.2.1 j.2.2.1 j.2.2.2.1 j.2.2.2.2.1 j.2.2.2.2.2.1 j.2.2.2.2.2.2.1 j.2.2.2.2.2.2.2.1 j.2.2.2.2.2.2.2.2.1 j.2.2.2.2.2.2.2.2.2=some r) ?_ ?_
  ·rintro ⟨v11,v12,v13,v14,v15,v16,v17,v18,v19,v20⟩ H g2 ⟨hS,hM⟩
   change wpA _ _ _ _ (Fr.of [(0,.sl .no 3 (a0.map WireFault.cells)),(2,.ptr (g+0) 0),(3,.ptr (g+1+0) 0)]) _ _
   replace hS:St (·<g) H0 [(g+1+0,.cells [.i v11,.i v12,.i v13,.i v14,.i v15,.i v16,.i v17,.i v18,.i v19,.i v20]),(g+0,.cells [.i 0,.i 0,.i 0,.i 0,.i 0,.i 0,.i 0,.i 0,.i 0,.i 0])] H g2:=hS
   replace hM:zez n a0 v11 v12 v13 v14 v15 v16 v17 v18 v19 v20=some r:=hM
   refine zaJ (J:=Int×Int×Int×Int×Int×Int×Int×Int×Int×Int) (fun j=>[(2,.ptr (g+0) 0),(3,.ptr (g+1+0) 0)]) (fun j H' g'=>St (·<g) H0 [(g+1+0,.cells [.i j.1,.i j.2.1,.i j.2.2.1,.i j.2.2.2.1,.i j.2.2.2.2.1,.i j.2.2.2.2.2.1,.i j.2.2.2.2.2.2.1,.i j.2.2.2.2.2.2.2.1,.i j.2.2.2.2.2.2.2.2.1,.i j.2.2.2.2.2.2.2.2.2]),(g+0,.cells [.i 0,.i 0,.i 0,.i 0,.i 0,.i 0,.i 0,.i 0,.i 0,.i 0])] H' g'/\zfn j.1 j.2.1 j.2.2.1 j.2.2.2.1 j.2.2.2.2.1 j.2.2.2.2.2.1 j.2.2.2.2.2.2.1 j.2.2.2.2.2.2.2.1 j.2.2.2.2.2.2.2.2.1 j.2.2.2.2.2.2.2.2.2=some r) ?_ ?_
   ·rintro ⟨v21,v22,v23,v24,v25,v26,v27,v28,v29,v30⟩ H g3 ⟨hS,hM⟩
    change wpA _ _ _ _ (Fr.of [(2,.ptr (g+0) 0),(3,.ptr (g+1+0) 0)]) _ _
    replace hS:St (·<g) H0 [(g+1+0,.cells [.i v21,.i v22,.i v23,.i v24,.i v25,.i v26,.i v27,.i v28,.i v29,.i v30]),(g+0,.cells [.i 0,.i 0,.i 0,.i 0,.i 0,.i 0,.i 0,.i 0,.i 0,.i 0])] H g3:=hS
    replace hM:zfn v21 v22 v23 v24 v25 v26 v27 v28 v29 v30=some r:=hM
    refine Sq ?_
    refine Rg 2 ?_
    refine zb1 (v:=.agg [.i v21,.i v22,.i v23,.i v24,.i v25,.i v26,.i v27,.i v28,.i v29,.i v30]) 0 hS (by decide) rfl rfl .no (pg zms) ?_
    refine zbZ (v:=.agg [.i v21,.i v22,.i v23,.i v24,.i v25,.i v26,.i v27,.i v28,.i v29,.i v30]) (ns:=[.i v21,.i v22,.i v23,.i v24,.i v25,.i v26,.i v27,.i v28,.i v29,.i v30]) (L':=[(g+1+0,.cells [.i v21,.i v22,.i v23,.i v24,.i v25,.i v26,.i v27,.i v28,.i v29,.i v30]),(g+0,.cells [.i v21,.i v22,.i v23,.i v24,.i v25,.i v26,.i v27,.i v28,.i v29,.i v30])]) 1 hS rfl rfl .no rfl rfl zpQ nlb rfl fun H hS=>?_
    refine Ni ?_
    replace hS:=hS.keep (L':=[(g+0,.cells [.i v21,.i v22,.i v23,.i v24,.i v25,.i v26,.i v27,.i v28,.i v29,.i v30])]) [false,true] rfl
    refine Ws ?_
    refine za8 ?_
    refine zbq (x:=.agg [.i v21,.i v22,.i v23,.i v24,.i v25,.i v26,.i v27,.i v28,.i v29,.i v30]) (f:=fun r=>.agg [.i r.letters.c0,.i r.letters.c1,.i r.letters.c2,.i r.letters.c3,.i r.letters.c4,.i r.numbers.c0,.i r.numbers.c1,.i r.numbers.c2,.i r.numbers.c3,.i r.numbers.c4]) (.inr rfl) ?_ (.refl _) (Option.some.inj hM) hS
    exact (zay (ziu (x:=.agg [.i v21,.i v22,.i v23,.i v24,.i v25,.i v26,.i v27,.i v28,.i v29,.i v30]) 0 hS rfl rfl (pg zms)))
   ·refine Sq ?_
    refine Rg 3 ?_
    refine Om (.sl .no 3 (a0.map WireFault.cells)) ?_
    refine zc7 (n:=a0.length) (by decide) rfl (List.length_map _) zfp ?_
    refine Om (.i 0) ?_
    refine Ni ?_
    refine Ws ?_
    refine zas ?_
    refine zbV (V:=Int×Int×Int×Int×Int×Int×Int×Int×Int×Int×Int) (fun v=>[(2,.ptr (g+0) 0),(3,.ptr (g+1+0) 0),(43,.sl .no 3 (a0.map WireFault.cells)),(44,.i (a0.length:Int)),(45,.i v.1)]) (fun v m5 H' g'=>St (·<g) H0 [(g+1+0,.cells [.i v.2.1,.i v.2.2.1,.i v.2.2.2.1,.i v.2.2.2.2.1,.i v.2.2.2.2.2.1,.i v.2.2.2.2.2.2.1,.i v.2.2.2.2.2.2.2.1,.i v.2.2.2.2.2.2.2.2.1,.i v.2.2.2.2.2.2.2.2.2.1,.i v.2.2.2.2.2.2.2.2.2.2]),(g+0,.cells [.i 0,.i 0,.i 0,.i 0,.i 0,.i 0,.i 0,.i 0,.i 0,.i 0])] H' g'/\zcC a0 m5 v.1 v.2.1 v.2.2.1 v.2.2.2.1 v.2.2.2.2.1 v.2.2.2.2.2.1 v.2.2.2.2.2.2.1 v.2.2.2.2.2.2.2.1 v.2.2.2.2.2.2.2.2.1 v.2.2.2.2.2.2.2.2.2.1 v.2.2.2.2.2.2.2.2.2.2=some r) (n:=n) (0,v11,v12,v13,v14,v15,v16,v17,v18,v19,v20) (.k (.k (.k (.k (.k .nil))))) ⟨(hS.keep [true,true] rfl).up (by omega),hM⟩ ?_
    rintro ⟨v32,v33,v34,v35,v36,v37,v38,v39,v40,v41,v42⟩ m5 H g5 ⟨hS,hM⟩
    obtain _ | m5:=m5
    ·exact nomatch (show none=some _ from hM)
    change wpA _ _ _ _ (Fr.of [(2,.ptr (g+0) 0),(3,.ptr (g+1+0) 0),(43,.sl .no 3 (a0.map WireFault.cells)),(44,.i (a0.length:Int)),(45,.i v32)]) _ _
    replace hS:St (·<g) H0 [(g+1+0,.cells [.i v33,.i v34,.i v35,.i v36,.i v37,.i v38,.i v39,.i v40,.i v41,.i v42]),(g+0,.cells [.i 0,.i 0,.i 0,.i 0,.i 0,.i 0,.i 0,.i 0,.i 0,.i 0])] H g5:=hS
    replace hM:zey a0 (zcC a0 m5) v32 v33 v34 v35 v36 v37 v38 v39 v40 v41 v42=some r:=hM
    refine Sq ?_
    refine Rg 1 ?_
    refine Oi (.b (decide (v32<(a0.length:Int)))) ?_
    refine Ni ?_
    refine Ws ?_
    refine Sq ?_
    rcases bft (decide (v32<(a0.length:Int))) with hb43 | hb43
    ·replace hM:=ifT hM hb43
     refine Ct hb43 ?_
     refine zaF ?_
     refine Ws ?_
     refine zaJ (J:=Int×Int×Int×Int×Int×Int×Int×Int×Int×Int) (fun j=>[(2,.ptr (g+0) 0),(3,.ptr (g+1+0) 0),(43,.sl .no 3 (a0.map WireFault.cells)),(44,.i (a0.length:Int)),(45,.i v32)]) (fun j H' g'=>St (·<g) H0 [(g+1+0,.cells [.i j.1,.i j.2.1,.i j.2.2.1,.i j.2.2.2.1,.i j.2.2.2.2.1,.i j.2.2.2.2.2.1,.i j.2.2.2.2.2.2.1,.i j.2.2.2.2.2.2.2.1,.i j.2.2.2.2.2.2.2.2.1,.i j.2.2.2.2.2.2.2.2.2]),(g+0,.cells [.i 0,.i 0,.i 0,.i 0,.i 0,.i 0,.i 0,.i 0,.i 0,.i 0])] H' g'/\zcU (zcC a0 m5) v32 j.1 j.2.1 j.2.2.1 j.2.2.2.1 j.2.2.2.2.1 j.2.2.2.2.2.1 j.2.2.2.2.2.2.1 j.2.2.2.2.2.2.2.1 j.2.2.2.2.2.2.2.2.1 j.2.2.2.2.2.2.2.2.2=some r) ?_ ?_
     ·rintro ⟨v44,v45,v46,v47,v48,v49,v50,v51,v52,v53⟩ H g6 ⟨hS,hM⟩
      change wpA _ _ _ _ (Fr.of [(2,.ptr (g+0) 0),(3,.ptr (g+1+0) 0),(43,.sl .no 3 (a0.map WireFault.cells)),(44,.i (a0.length:Int)),(45,.i v32)]) _ _
      replace hS:St (·<g) H0 [(g+1+0,.cells [.i v44,.i v45,.i v46,.i v47,.i v48,.i v49,.i v50,.i v51,.i v52,.i v53]),(g+0,.cells [.i 0,.i 0,.i 0,.i 0,.i 0,.i 0,.i 0,.i 0,.i 0,.i 0])] H g6:=hS
      replace hM:zcU (zcC a0 m5) v32 v44 v45 v46 v47 v48 v49 v50 v51 v52 v53=some r:=hM
      refine Rg 2 ?_
      refine Oi (.i (w64 (v32+1))) ?_
      refine Om (.i (w64 (v32+1))) ?_
      refine Ni ?_
      exact zbg (w64 (v32+1),v44,v45,v46,v47,v48,v49,v50,v51,v52,v53) (Nat.lt_succ_self _) (.k (.k (.k (.k (.k .nil))))) ⟨(hS.keep [true,true] rfl).up (by omega),hM⟩
     ·refine zas ?_
      refine Sq ?_
      refine Rg 4 ?_
      obtain ⟨x54,hx54,hM⟩:=zat hM
      refine zce (xs:=a0) (f:=WireFault.cells) (z:=v32) (u:=x54) (by decide) rfl rfl zb0 hx54 ?_
      refine Olg (.agg (WireFault.cells x54)) zcE ?_
      refine zfA hS (by decide) zec (by omega) fun H hS=>?_
      refine zbZ (v:=.agg (WireFault.cells x54)) (ns:=(WireFault.cells x54)) (L':=[(g5+1+2,.cells (WireFault.cells x54)),(g+1+0,.cells [.i v33,.i v34,.i v35,.i v36,.i v37,.i v38,.i v39,.i v40,.i v41,.i v42]),(g+0,.cells [.i 0,.i 0,.i 0,.i 0,.i 0,.i 0,.i 0,.i 0,.i 0,.i 0])]) 0 hS rfl rfl .no rfl rfl zkr nlb rfl fun H hS=>?_
      refine Ni ?_
      refine zb5 (L':=[(g+1+0,.cells [.i v33,.i v34,.i v35,.i v36,.i v37,.i v38,.i v39,.i v40,.i v41,.i v42]),(g+0,.cells [.i 0,.i 0,.i 0,.i 0,.i 0,.i 0,.i 0,.i 0,.i 0,.i 0])]) 0 9 hS rfl rfl rfl fun H hS=>?_
      refine Ws ?_
      refine Sq ?_
      refine Rg 2 ?_
      refine Of ((WireFault.cells x54)) zdQ ?_
      refine Olp (.i x54.Kind) zai zav ?_
      refine Ni ?_
      refine Ws ?_
      refine zas ?_
      refine Sq ?_
      refine Rg 2 ?_
      refine Oi (.b (x54.Kind==1)) ?_
      refine Oa (.b (x54.Kind==1)) ?_
      refine Ni ?_
      refine Ws ?_
      rcases bft (x54.Kind==1) with hb55 | hb55
      ·replace hM:=ifT hM hb55
       refine Ct hb55 ?_
       refine Rg 5 ?_
       refine Of ((WireFault.cells x54)) zcX ?_
       refine Olp (.i x54.A) zai zav ?_
       refine zan (by decide) zhU rfl ?_
       obtain ⟨x56,hx56,hM⟩:=zat hM
       refine zgT (z:=x54.A) (by decide) rfl rfl zfR (zha hx56) ?_
       obtain ⟨l57,hl57,hM⟩:=zat hM
       refine ziv (xs:=([v33,v34,v35,v36,v37]:List Int)) (u:=l57) (z:=x54.A) (v:=(-1)) (off:=0+0) (cs':=[.i (l57.getD 0 0),.i (l57.getD 1 0),.i (l57.getD 2 0),.i (l57.getD 3 0),.i (l57.getD 4 0),.i v38,.i v39,.i v40,.i v41,.i v42]) (L':=[(g+1+0,.cells [.i (l57.getD 0 0),.i (l57.getD 1 0),.i (l57.getD 2 0),.i (l57.getD 3 0),.i (l57.getD 4 0),.i v38,.i v39,.i v40,.i v41,.i v42]),(g+0,.cells [.i 0,.i 0,.i 0,.i 0,.i 0,.i 0,.i 0,.i 0,.i 0,.i 0])]) 0 hS rfl rfl .no rfl rfl hl57 zem rfl rfl fun H hS=>?_
       refine Ni ?_
       refine zae ?_
       refine zae ?_
       exact zah ((l57.getD 0 0),(l57.getD 1 0),(l57.getD 2 0),(l57.getD 3 0),(l57.getD 4 0),v38,v39,v40,v41,v42) (.k (.k (.k (.k (.k .nil))))) ⟨(hS.keep [true,true] rfl).up (by omega),hM⟩
      ·replace hM:=ifF hM hb55
       refine Cf hb55 ?_
       refine Sq ?_
       refine Rg 2 ?_
       refine Oi (.b (x54.Kind==2)) ?_
       refine Oa (.b (x54.Kind==2)) ?_
       refine Ni ?_
       refine Ws ?_
       rcases bft (x54.Kind==2) with hb58 | hb58
       ·replace hM:=ifT hM hb58
        refine Ct hb58 ?_
        refine Rg 5 ?_
        refine Of ((WireFault.cells x54)) zcX ?_
        refine Olp (.i x54.A) zai zav ?_
        refine zan (by decide) zhV rfl ?_
        obtain ⟨x59,hx59,hM⟩:=zat hM
        refine zgT (z:=x54.A) (by decide) rfl rfl zfR (zha hx59) ?_
        obtain ⟨l60,hl60,hM⟩:=zat hM
        refine ziv (xs:=([v38,v39,v40,v41,v42]:List Int)) (u:=l60) (z:=x54.A) (v:=(-1)) (off:=0+5) (cs':=[.i v33,.i v34,.i v35,.i v36,.i v37,.i (l60.getD 0 0),.i (l60.getD 1 0),.i (l60.getD 2 0),.i (l60.getD 3 0),.i (l60.getD 4 0)]) (L':=[(g+1+0,.cells [.i v33,.i v34,.i v35,.i v36,.i v37,.i (l60.getD 0 0),.i (l60.getD 1 0),.i (l60.getD 2 0),.i (l60.getD 3 0),.i (l60.getD 4 0)]),(g+0,.cells [.i 0,.i 0,.i 0,.i 0,.i 0,.i 0,.i 0,.i 0,.i 0,.i 0])]) 0 hS rfl rfl .no rfl rfl hl60 zem rfl rfl fun H hS=>?_
        refine Ni ?_
        refine zae ?_
        refine zae ?_
        exact zah (v33,v34,v35,v36,v37,(l60.getD 0 0),(l60.getD 1 0),(l60.getD 2 0),(l60.getD 3 0),(l60.getD 4 0)) (.k (.k (.k (.k (.k .nil))))) ⟨(hS.keep [true,true] rfl).up (by omega),hM⟩
       ·replace hM:=ifF hM hb58
        refine Cf hb58 ?_
        refine zaF ?_
        refine zae ?_
        refine zae ?_
        exact zah (v33,v34,v35,v36,v37,v38,v39,v40,v41,v42) (.k (.k (.k (.k (.k .nil))))) ⟨(hS.keep [true,true] rfl).up (by omega),hM⟩
    ·replace hM:=ifF hM hb43
     refine Cf hb43 ?_
     refine zbS ?_
     refine zaq ?_
     refine zam ?_
     refine zaA ?_
     exact zah (v33,v34,v35,v36,v37,v38,v39,v40,v41,v42) (.k (.k .nil)) ⟨(hS.keep [true,true] rfl).up (by omega),hM⟩
  ·refine Sq ?_
   refine Rg 3 ?_
   refine Om (.sl .no 3 (a0.map WireFault.cells)) ?_
   refine zc7 (n:=a0.length) (by decide) rfl (List.length_map _) zfp ?_
   refine Om (.i 0) ?_
   refine Ni ?_
   refine Ws ?_
   refine zas ?_
   refine zbV (V:=Int×Int×Int×Int×Int×Int×Int×Int×Int×Int×Int) (fun v=>[(0,.sl .no 3 (a0.map WireFault.cells)),(2,.ptr (g+0) 0),(3,.ptr (g+1+0) 0),(5,.fn (.func 63) [] []),(22,.sl .no 3 (a0.map WireFault.cells)),(23,.i (a0.length:Int)),(24,.i v.1)]) (fun v m8 H' g'=>St (·<g) H0 [(g+1+0,.cells [.i v.2.1,.i v.2.2.1,.i v.2.2.2.1,.i v.2.2.2.2.1,.i v.2.2.2.2.2.1,.i v.2.2.2.2.2.2.1,.i v.2.2.2.2.2.2.2.1,.i v.2.2.2.2.2.2.2.2.1,.i v.2.2.2.2.2.2.2.2.2.1,.i v.2.2.2.2.2.2.2.2.2.2]),(g+0,.cells [.i 0,.i 0,.i 0,.i 0,.i 0,.i 0,.i 0,.i 0,.i 0,.i 0])] H' g'/\zcD n a0 m8 v.1 v.2.1 v.2.2.1 v.2.2.2.1 v.2.2.2.2.1 v.2.2.2.2.2.1 v.2.2.2.2.2.2.1 v.2.2.2.2.2.2.2.1 v.2.2.2.2.2.2.2.2.1 v.2.2.2.2.2.2.2.2.2.1 v.2.2.2.2.2.2.2.2.2.2=some r) (n:=n) (0,v1,v2,v3,v4,v5,v6,v7,v8,v9,v10) (.k (.k (.k (.k (.k (.k (.k .nil))))))) ⟨(hS.keep [true,true] rfl).up (by omega),hM⟩ ?_
   rintro ⟨v62,v63,v64,v65,v66,v67,v68,v69,v70,v71,v72⟩ m8 H g8 ⟨hS,hM⟩
   obtain _ | m8:=m8
   ·exact nomatch (show none=some _ from hM)
   change wpA _ _ _ _ (Fr.of [(0,.sl .no 3 (a0.map WireFault.cells)),(2,.ptr (g+0) 0),(3,.ptr (g+1+0) 0),(5,.fn (.func 63) [] []),(22,.sl .no 3 (a0.map WireFault.cells)),(23,.i (a0.length:Int)),(24,.i v62)]) _ _
   replace hS:St (·<g) H0 [(g+1+0,.cells [.i v63,.i v64,.i v65,.i v66,.i v67,.i v68,.i v69,.i v70,.i v71,.i v72]),(g+0,.cells [.i 0,.i 0,.i 0,.i 0,.i 0,.i 0,.i 0,.i 0,.i 0,.i 0])] H g8:=hS
   replace hM:zeA n a0 (zcD n a0 m8) v62 v63 v64 v65 v66 v67 v68 v69 v70 v71 v72=some r:=hM
   refine Sq ?_
   refine Rg 1 ?_
   refine Oi (.b (decide (v62<(a0.length:Int)))) ?_
   refine Ni ?_
   refine Ws ?_
   refine Sq ?_
   rcases bft (decide (v62<(a0.length:Int))) with hb73 | hb73
   ·replace hM:=ifT hM hb73
    refine Ct hb73 ?_
    refine zaF ?_
    refine Ws ?_
    refine zaJ (J:=Int×Int×Int×Int×Int×Int×Int×Int×Int×Int) (fun j=>[(0,.sl .no 3 (a0.map WireFault.cells)),(2,.ptr (g+0) 0),(3,.ptr (g+1+0) 0),(5,.fn (.func 63) [] []),(22,.sl .no 3 (a0.map WireFault.cells)),(23,.i (a0.length:Int)),(24,.i v62)]) (fun j H' g'=>St (·<g) H0 [(g+1+0,.cells [.i j.1,.i j.2.1,.i j.2.2.1,.i j.2.2.2.1,.i j.2.2.2.2.1,.i j.2.2.2.2.2.1,.i j.2.2.2.2.2.2.1,.i j.2.2.2.2.2.2.2.1,.i j.2.2.2.2.2.2.2.2.1,.i j.2.2.2.2.2.2.2.2.2]),(g+0,.cells [.i 0,.i 0,.i 0,.i 0,.i 0,.i 0,.i 0,.i 0,.i 0,.i 0])] H' g'/\zcV (zcD n a0 m8) v62 j.1 j.2.1 j.2.2.1 j.2.2.2.1 j.2.2.2.2.1 j.2.2.2.2.2.1 j.2.2.2.2.2.2.1 j.2.2.2.2.2.2.2.1 j.2.2.2.2.2.2.2.2.1 j.2.2.2.2.2.2.2.2.2=some r) ?_ ?_
    ·rintro ⟨v74,v75,v76,v77,v78,v79,v80,v81,v82,v83⟩ H g9 ⟨hS,hM⟩
     change wpA _ _ _ _ (Fr.of [(0,.sl .no 3 (a0.map WireFault.cells)),(2,.ptr (g+0) 0),(3,.ptr (g+1+0) 0),(5,.fn (.func 63) [] []),(22,.sl .no 3 (a0.map WireFault.cells)),(23,.i (a0.length:Int)),(24,.i v62)]) _ _
     replace hS:St (·<g) H0 [(g+1+0,.cells [.i v74,.i v75,.i v76,.i v77,.i v78,.i v79,.i v80,.i v81,.i v82,.i v83]),(g+0,.cells [.i 0,.i 0,.i 0,.i 0,.i 0,.i 0,.i 0,.i 0,.i 0,.i 0])] H g9:=hS
     replace hM:zcV (zcD n a0 m8) v62 v74 v75 v76 v77 v78 v79 v80 v81 v82 v83=some r:=hM
     refine Rg 2 ?_
     refine Oi (.i (w64 (v62+1))) ?_
     refine Om (.i (w64 (v62+1))) ?_
     refine Ni ?_
     exact zbg (w64 (v62+1),v74,v75,v76,v77,v78,v79,v80,v81,v82,v83) (Nat.lt_succ_self _) (.k (.k (.k (.k (.k (.k (.k .nil))))))) ⟨(hS.keep [true,true] rfl).up (by omega),hM⟩
    ·refine zas ?_
     refine Sq ?_
     refine Rg 4 ?_
     obtain ⟨x84,hx84,hM⟩:=zat hM
     refine zce (xs:=a0) (f:=WireFault.cells) (z:=v62) (u:=x84) (by decide) rfl rfl zb0 hx84 ?_
     refine Olg (.agg (WireFault.cells x84)) zcE ?_
     refine zfA hS (by decide) zec (by omega) fun H hS=>?_
     refine zbZ (v:=.agg (WireFault.cells x84)) (ns:=(WireFault.cells x84)) (L':=[(g8+1+2,.cells (WireFault.cells x84)),(g+1+0,.cells [.i v63,.i v64,.i v65,.i v66,.i v67,.i v68,.i v69,.i v70,.i v71,.i v72]),(g+0,.cells [.i 0,.i 0,.i 0,.i 0,.i 0,.i 0,.i 0,.i 0,.i 0,.i 0])]) 0 hS rfl rfl .no rfl rfl zkr nlb rfl fun H hS=>?_
     refine Ni ?_
     refine zb5 (L':=[(g+1+0,.cells [.i v63,.i v64,.i v65,.i v66,.i v67,.i v68,.i v69,.i v70,.i v71,.i v72]),(g+0,.cells [.i 0,.i 0,.i 0,.i 0,.i 0,.i 0,.i 0,.i 0,.i 0,.i 0])]) 0 7 hS rfl rfl rfl fun H hS=>?_
     refine Ws ?_
     refine Sq ?_
     refine Rg 2 ?_
     refine Of ((WireFault.cells x84)) zdQ ?_
     refine Olp (.i x84.Kind) zai zav ?_
     refine Ni ?_
     refine Ws ?_
     refine zas ?_
     refine Sq ?_
     refine Rg 2 ?_
     refine Oi (.b (x84.Kind==3)) ?_
     refine Oa (.b (x84.Kind==3)) ?_
     refine Ni ?_
     refine Ws ?_
     rcases bft (x84.Kind==3) with hb85 | hb85
     ·replace hM:=ifT hM hb85
      refine Ct hb85 ?_
      refine Rg 4 ?_
      refine Om (.fn (.func 63) [] []) ?_
      refine zan (by decide) zhU rfl ?_
      refine Olg (.agg (WireFault.cells x84)) zcE ?_
      obtain ⟨l86,hl86,hM⟩:=zat hM
      refine zr4 (bs:=[.ptr (g+1+0) (0+0),.agg (WireFault.cells x84)]) (L':=[(g+1+0,.cells [.i (l86.getD 0 0),.i (l86.getD 1 0),.i (l86.getD 2 0),.i (l86.getD 3 0),.i (l86.getD 4 0),.i (l86.getD 5 0),.i (l86.getD 6 0),.i (l86.getD 7 0),.i (l86.getD 8 0),.i (l86.getD 9 0)]),(g+0,.cells [.i 0,.i 0,.i 0,.i 0,.i 0,.i 0,.i 0,.i 0,.i 0,.i 0])]) 0 hS (by decide) rfl rfl rfl zqo (zgM (p:=g+1+0) hl86) rfl fun H hS=>?_
      refine Ni ?_
      refine zae ?_
      refine zae ?_
      exact zah ((l86.getD 0 0),(l86.getD 1 0),(l86.getD 2 0),(l86.getD 3 0),(l86.getD 4 0),(l86.getD 5 0),(l86.getD 6 0),(l86.getD 7 0),(l86.getD 8 0),(l86.getD 9 0)) (.k (.k (.k (.k (.k (.k (.k .nil))))))) ⟨(hS.keep [true,true] rfl).up (by omega),hM⟩
     ·replace hM:=ifF hM hb85
      refine Cf hb85 ?_
      refine Sq ?_
      refine Rg 2 ?_
      refine Oi (.b (x84.Kind==4)) ?_
      refine Oa (.b (x84.Kind==4)) ?_
      refine Ni ?_
      refine Ws ?_
      rcases bft (x84.Kind==4) with hb87 | hb87
      ·replace hM:=ifT hM hb87
       refine Ct hb87 ?_
       refine Rg 4 ?_
       refine Om (.fn (.func 63) [] []) ?_
       refine zan (by decide) zhV rfl ?_
       refine Olg (.agg (WireFault.cells x84)) zcE ?_
       obtain ⟨l88,hl88,hM⟩:=zat hM
       refine zr4 (bs:=[.ptr (g+1+0) (0+5),.agg (WireFault.cells x84)]) (L':=[(g+1+0,.cells [.i (l88.getD 0 0),.i (l88.getD 1 0),.i (l88.getD 2 0),.i (l88.getD 3 0),.i (l88.getD 4 0),.i (l88.getD 5 0),.i (l88.getD 6 0),.i (l88.getD 7 0),.i (l88.getD 8 0),.i (l88.getD 9 0)]),(g+0,.cells [.i 0,.i 0,.i 0,.i 0,.i 0,.i 0,.i 0,.i 0,.i 0,.i 0])]) 0 hS (by decide) rfl rfl rfl zqo (zgM (p:=g+1+0) hl88) rfl fun H hS=>?_
       refine Ni ?_
       refine zae ?_
       refine zae ?_
       exact zah ((l88.getD 0 0),(l88.getD 1 0),(l88.getD 2 0),(l88.getD 3 0),(l88.getD 4 0),(l88.getD 5 0),(l88.getD 6 0),(l88.getD 7 0),(l88.getD 8 0),(l88.getD 9 0)) (.k (.k (.k (.k (.k (.k (.k .nil))))))) ⟨(hS.keep [true,true] rfl).up (by omega),hM⟩
      ·replace hM:=ifF hM hb87
       refine Cf hb87 ?_
       refine zaF ?_
       refine zae ?_
       refine zae ?_
       exact zah (v63,v64,v65,v66,v67,v68,v69,v70,v71,v72) (.k (.k (.k (.k (.k (.k (.k .nil))))))) ⟨(hS.keep [true,true] rfl).up (by omega),hM⟩
   ·replace hM:=ifF hM hb73
    refine Cf hb73 ?_
    refine zbS ?_
    refine zaq ?_
    refine zam ?_
    refine zaA ?_
    exact zah (v63,v64,v65,v66,v67,v68,v69,v70,v71,v72) (.k (.k (.k .nil))) ⟨(hS.keep [true,true] rfl).up (by omega),hM⟩
 ·refine Sq ?_
  refine Rg 1 ?_
  refine Om (.i 0) ?_
  refine Ni ?_
  refine Ws ?_
  refine zas ?_
  refine zbV (V:=Int×Int×Int×Int×Int×Int×Int×Int×Int×Int×Int) (fun v=>[(0,.sl .no 3 (a0.map WireFault.cells)),(2,.ptr (g+0) 0),(3,.ptr (g+1+0) 0),(10,.i v.1)]) (fun v m11 H' g'=>St (·<g) H0 [(g+1+0,.cells [.i v.2.1,.i v.2.2.1,.i v.2.2.2.1,.i v.2.2.2.2.1,.i v.2.2.2.2.2.1,.i v.2.2.2.2.2.2.1,.i v.2.2.2.2.2.2.2.1,.i v.2.2.2.2.2.2.2.2.1,.i v.2.2.2.2.2.2.2.2.2.1,.i v.2.2.2.2.2.2.2.2.2.2]),(g+0,.cells [.i 0,.i 0,.i 0,.i 0,.i 0,.i 0,.i 0,.i 0,.i 0,.i 0])] H' g'/\zfo n a0 m11 v.1 v.2.1 v.2.2.1 v.2.2.2.1 v.2.2.2.2.1 v.2.2.2.2.2.1 v.2.2.2.2.2.2.1 v.2.2.2.2.2.2.2.1 v.2.2.2.2.2.2.2.2.1 v.2.2.2.2.2.2.2.2.2.1 v.2.2.2.2.2.2.2.2.2.2=some r) (n:=n) (0,0,0,0,0,0,0,0,0,0,0) (.k (.k (.k (.k .nil)))) ⟨(hS.keep [true,true] rfl).up (by omega),hM⟩ ?_
  rintro ⟨v90,v91,v92,v93,v94,v95,v96,v97,v98,v99,v100⟩ m11 H g11 ⟨hS,hM⟩
  obtain _ | m11:=m11
  ·exact nomatch (show none=some _ from hM)
  change wpA _ _ _ _ (Fr.of [(0,.sl .no 3 (a0.map WireFault.cells)),(2,.ptr (g+0) 0),(3,.ptr (g+1+0) 0),(10,.i v90)]) _ _
  replace hS:St (·<g) H0 [(g+1+0,.cells [.i v91,.i v92,.i v93,.i v94,.i v95,.i v96,.i v97,.i v98,.i v99,.i v100]),(g+0,.cells [.i 0,.i 0,.i 0,.i 0,.i 0,.i 0,.i 0,.i 0,.i 0,.i 0])] H g11:=hS
  replace hM:zgG n a0 (zfo n a0 m11) v90 v91 v92 v93 v94 v95 v96 v97 v98 v99 v100=some r:=hM
  refine Sq ?_
  refine Rg 1 ?_
  refine Oi (.b (decide (v90<5))) ?_
  refine Ni ?_
  refine Ws ?_
  refine Sq ?_
  rcases bft (decide (v90<5)) with hb101 | hb101
  ·replace hM:=ifT hM hb101
   refine Ct hb101 ?_
   refine zaF ?_
   refine Ws ?_
   refine Sq ?_
   refine zas ?_
   refine Sq ?_
   refine Rg 2 ?_
   refine Om (.i v90) ?_
   refine Oa (.i v90) ?_
   refine Ni ?_
   refine Ws ?_
   refine Rg 10 ?_
   refine Om (.i v90) ?_
   refine Om (.i v90) ?_
   refine Om (.i v90) ?_
   refine Om (.i v90) ?_
   refine zan (by decide) zhU rfl ?_
   obtain ⟨x102,hx102,hM⟩:=zat hM
   refine zgT (z:=v90) (by decide) rfl rfl zfR (zha hx102) ?_
   obtain ⟨l103,hl103,hM⟩:=zat hM
   refine ziv (xs:=([v91,v92,v93,v94,v95]:List Int)) (u:=l103) (z:=v90) (v:=v90) (off:=0+0) (cs':=[.i (l103.getD 0 0),.i (l103.getD 1 0),.i (l103.getD 2 0),.i (l103.getD 3 0),.i (l103.getD 4 0),.i v96,.i v97,.i v98,.i v99,.i v100]) (L':=[(g+1+0,.cells [.i (l103.getD 0 0),.i (l103.getD 1 0),.i (l103.getD 2 0),.i (l103.getD 3 0),.i (l103.getD 4 0),.i v96,.i v97,.i v98,.i v99,.i v100]),(g+0,.cells [.i 0,.i 0,.i 0,.i 0,.i 0,.i 0,.i 0,.i 0,.i 0,.i 0])]) 0 hS rfl rfl .no rfl rfl hl103 zem rfl rfl fun H hS=>?_
   refine zan (by decide) zhV rfl ?_
   obtain ⟨x104,hx104,hM⟩:=zat hM
   refine zgT (z:=v90) (by decide) rfl rfl zfR (zha hx104) ?_
   obtain ⟨l105,hl105,hM⟩:=zat hM
   refine ziv (xs:=([v96,v97,v98,v99,v100]:List Int)) (u:=l105) (z:=v90) (v:=v90) (off:=0+5) (cs':=[.i (l103.getD 0 0),.i (l103.getD 1 0),.i (l103.getD 2 0),.i (l103.getD 3 0),.i (l103.getD 4 0),.i (l105.getD 0 0),.i (l105.getD 1 0),.i (l105.getD 2 0),.i (l105.getD 3 0),.i (l105.getD 4 0)]) (L':=[(g+1+0,.cells [.i (l103.getD 0 0),.i (l103.getD 1 0),.i (l103.getD 2 0),.i (l103.getD 3 0),.i (l103.getD 4 0),.i (l105.getD 0 0),.i (l105.getD 1 0),.i (l105.getD 2 0),.i (l105.getD 3 0),.i (l105.getD 4 0)]),(g+0,.cells [.i 0,.i 0,.i 0,.i 0,.i 0,.i 0,.i 0,.i 0,.i 0,.i 0])]) 0 hS rfl rfl .no rfl rfl hl105 zem rfl rfl fun H hS=>?_
   refine Ni ?_
   refine zae ?_
   refine Ws ?_
   refine Rg 2 ?_
   refine Oi (.i (w64 (v90+1))) ?_
   refine Om (.i (w64 (v90+1))) ?_
   refine Ni ?_
   exact zbg (w64 (v90+1),(l103.getD 0 0),(l103.getD 1 0),(l103.getD 2 0),(l103.getD 3 0),(l103.getD 4 0),(l105.getD 0 0),(l105.getD 1 0),(l105.getD 2 0),(l105.getD 3 0),(l105.getD 4 0)) (Nat.lt_succ_self _) (.k (.k (.k (.k .nil)))) ⟨(hS.keep [true,true] rfl).up (by omega),hM⟩
  ·replace hM:=ifF hM hb101
   refine Cf hb101 ?_
   refine zbS ?_
   refine zaq ?_
   refine zam ?_
   refine zaA ?_
   exact zah (v91,v92,v93,v94,v95,v96,v97,v98,v99,v100) (.k (.k (.k .nil))) ⟨(hS.keep [true,true] rfl).up (by omega),hM⟩
theorem zfq {n:Nat} {a0:Wire} {a1:List WireFault} {a2:Int} {a3:Int} {r:Int×Int} (hM:zcY n a0 a1 a2 a3=some r):zaI Try.prog 15 [.agg (Wire.cells a0),.sl .no 3 (a1.map WireFault.cells),.i a2,.i a3] (.tup [.i r.1,.i r.2]):=by
 refine zaz mixed Try.func15 rfl (by decide) Try.ntmps15 (by simp) ?pure fun H0 g hf=>?_
 case pure=>exact .tup _ (zaf (.v _) (zaf (.v _) zaZ))
 rw [zar]
 change wpA _ _ _ _ (Fr.of [(0,.agg (Wire.cells a0)),(1,.sl .no 3 (a1.map WireFault.cells)),(2,.i a2),(3,.i a3)]) H0 g
 have hS:=St.start hf
 refine Sq ?_
 refine Rg 3 ?_
 refine zdI (v:=.agg (Wire.cells a0)) (cs:=(Wire.cells a0)) hS (by decide) rfl rfl (by omega) fun H hS=>?_
 refine Oa (.i 0) ?_
 refine Oa (.i 0) ?_
 refine Ni ?_
 refine zb5 (L':=[]) 0 4 hS rfl rfl rfl fun H hS=>?_
 refine Ws ?_
 refine Sq ?_
 refine Sq ?_
 refine Rg 3 ?_
 refine Olg (.agg (Wire.cells a0)) zeX ?_
 obtain ⟨r1,hr1,hM⟩:=zat hM
 refine zaU (bs:=[.agg (Wire.cells a0)]) (by decide) rfl rfl ((zkz hr1).le (.k .nil)) ?_
 refine Oa (.i r1) ?_
 refine Ni ?_
 refine Ws ?_
 refine Sq ?_
 refine Rg 2 ?_
 refine Om (.i r1) ?_
 refine Oi (.b (r1 != 0)) ?_
 refine Ni ?_
 refine Ws ?_
 rcases bft (r1 != 0) with hb2 | hb2
 ·replace hM:=ifT hM hb2
  refine Ct hb2 ?_
  refine Sq ?_
  refine Rg 3 ?_
  refine Om (.i r1) ?_
  refine Oa (.i 0) ?_
  refine Oa (.i r1) ?_
  refine Ni ?_
  refine Ws ?_
  refine za8 ?_
  refine zaC ?_
  refine zbq (x:=.tup [.i 0,.i r1]) (f:=fun r=>.tup [.i r.1,.i r.2]) (.inr rfl) ?_ (.refl _) (Option.some.inj hM) hS
  exact (zi0 (zau (x:=.i 0) rfl) (zau (x:=.i r1) rfl))
 ·replace hM:=ifF hM hb2
  refine Cf hb2 ?_
  refine zaF ?_
  refine Ws ?_
  refine Sq ?_
  refine Rg 3 ?_
  refine Olg (.agg (Wire.cells a0)) zeX ?_
  obtain ⟨r3,hr3,hM⟩:=zat hM
  refine zaU (bs:=[.agg (Wire.cells a0)]) (by decide) rfl rfl ((zld hr3).le (.k .nil)) ?_
  refine Oa (pA Wiring_.cells r3) ?_
  refine Ni ?_
  refine Ws ?_
  refine Sq ?_
  refine zaJ (J:=Bool) (fun j=>[(1,.sl .no 3 (a1.map WireFault.cells)),(2,.i a2),(3,.i a3),(11,pA Wiring_.cells r3),(29,.b j)]) (fun j H' g'=>St (·<g) H0 [] H' g'/\zdt n a1 a2 a3 r3 j=some r) ?_ ?_
  ·rintro v4 H g1 ⟨hS,hM⟩
   change wpA _ _ _ _ (Fr.of [(1,.sl .no 3 (a1.map WireFault.cells)),(2,.i a2),(3,.i a3),(11,pA Wiring_.cells r3),(29,.b v4)]) _ _
   replace hS:St (·<g) H0 [] H g1:=hS
   replace hM:zdt n a1 a2 a3 r3 v4=some r:=hM
   rcases bft v4 with hb5 | hb5
   ·replace hM:=ifT hM hb5
    refine Ct hb5 ?_
    refine Sq ?_
    refine Rg 2 ?_
    refine Oa (.i 0) ?_
    refine Oa (.i 1) ?_
    refine Ni ?_
    refine Ws ?_
    refine za8 ?_
    refine zaC ?_
    refine zbq (x:=.tup [.i 0,.i 1]) (f:=fun r=>.tup [.i r.1,.i r.2]) (.inr rfl) ?_ (.refl _) (Option.some.inj hM) hS
    exact (zi0 (zau (x:=.i 0) rfl) (zau (x:=.i 1) rfl))
   ·replace hM:=ifF hM hb5
    refine Cf hb5 ?_
    refine zaF ?_
    refine Ws ?_
    refine Sq ?_
    refine Rg 8 ?_
    refine Om (pA Wiring_.cells r3) ?_
    refine Om (.sl .no 3 (a1.map WireFault.cells)) ?_
    obtain ⟨r6,hr6,hM⟩:=zat hM
    refine zaU (bs:=[.sl .no 3 (a1.map WireFault.cells)]) (by decide) rfl rfl ((zlf hr6).le (.k .nil)) ?_
    refine Om (.i a2) ?_
    refine Om (.i a3) ?_
    obtain ⟨r7,hr7,hM⟩:=zat hM
    refine zaU (bs:=[pA Wiring_.cells r3,.agg (Panel_.cells r6),.i a2,.i a3]) (by decide) rfl rfl ((zg5 hr7).le (.k (.k (.k (.k .nil))))) ?_
    refine Oa (.i r7) ?_
    refine Oa (.i 0) ?_
    refine Ni ?_
    refine Ws ?_
    refine za8 ?_
    refine zbq (x:=.tup [.i r7,.i 0]) (f:=fun r=>.tup [.i r.1,.i r.2]) (.inr rfl) ?_ (.refl _) (Option.some.inj hM) hS
    exact (zi0 (zau (x:=.i r7) rfl) (zau (x:=.i 0) rfl))
  ·refine Rg 11 ?_
   refine Om (pA Wiring_.cells r3) ?_
   refine Om (.sl .no 3 (a1.map WireFault.cells)) ?_
   obtain ⟨r8,hr8,hM⟩:=zat hM
   refine zaU (bs:=[pA Wiring_.cells r3,.sl .no 3 (a1.map WireFault.cells)]) (by decide) rfl rfl ((zg4 hr8).le (.k (.k .nil))) ?_
   refine zfY (e:=r8) (by decide) rfl ?_
   refine Om (.b (!r8)) ?_
   rcases bft (!r8) with hb9 | hb9
   ·replace hM:=ifT hM hb9
    refine On (want:=false) hb9 ?_
    refine On (want:=false) hb9 ?_
    refine On (want:=false) hb9 ?_
    refine On (want:=false) hb9 ?_
    refine On (want:=false) hb9 ?_
    refine Pt (.b true) hb9 ?_
    refine Ni ?_
    exact zah true (.k (.k (.k (.k (.k .nil))))) ⟨(hS.keep [] rfl).up (by omega),hM⟩
   ·replace hM:=ifF hM hb9
    refine Oy (want:=false) hb9 ?_
    refine Olg (.agg (Wire.cells a0)) zeX ?_
    refine Oy (want:=false) hb9 ?_
    refine Om (.i a2) ?_
    refine Oy (want:=false) hb9 ?_
    refine Om (.i a3) ?_
    refine Oy (want:=false) hb9 ?_
    obtain ⟨r10,hr10,hM⟩:=zat hM
    refine zaU (bs:=[.agg (Wire.cells a0),.i a2,.i a3]) (by decide) rfl rfl ((zgL hr10).le (.k (.k (.k .nil)))) ?_
    refine Oy (want:=false) hb9 ?_
    refine zfY (e:=r10) (by decide) rfl ?_
    refine Pf (.b (!r10)) hb9 ?_
    refine Ni ?_
    exact zah (!r10) (.k (.k (.k (.k (.k .nil))))) ⟨(hS.keep [] rfl).up (by omega),hM⟩
theorem zfr {n:Nat} {r:Bool} (hM:zeO n=some r):zaI Try.prog 12 [] (.b r):=by
 refine zaz mixed Try.func12 rfl (by decide) Try.ntmps12 (by simp) ?pure fun H0 g hf=>?_
 case pure=>exact .v _
 rw [zar]
 change wpA _ _ _ _ (Fr.of []) H0 g
 have hS:=St.start hf
 refine Sq ?_
 refine Rg 1 ?_
 refine Oa (.b false) ?_
 refine Ni ?_
 refine Ws ?_
 refine Sq ?_
 refine Rg 9 ?_
 refine zdJ (cs:=[.i 2,.i 3,.sl .nil 0 [],.i 0]) (by decide) zjc zor rfl ?_
 refine zdJ (cs:=[.i 3,.i 0,.i 1]) (by decide) zec zhv rfl ?_
 refine zbx (es:=[[.i 3,.i 0,.i 1]]) hS (by decide) zb0 zdO rfl zdP rfl (by decide) (by omega) fun H hS=>?_
 obtain ⟨r1,hr1,hM⟩:=zat hM
 refine zaU (bs:=[.agg [.i 2,.i 3,.sl .nil 0 [],.i 0],.sl (.id (g+1+2)) 3 (([(⟨3,0,1⟩:WireFault)]:List WireFault).map WireFault.cells),.i 1,.i 2]) (by decide) rfl rfl ((zfq hr1).le (.cons (.aggL (.k (.k (.cons (.sl0 .nil 3 0) (.k .nil))))) (.cons (.sl _ _ _) (.k (.k .nil))))) ?_
 refine Om (.tup [.i r1.1,.i r1.2]) ?_
 refine Ox (.i r1.1) ?_
 refine Ox (.i r1.2) ?_
 refine Oa (.i r1.1) ?_
 refine Oa (.i r1.2) ?_
 refine Ni ?_
 replace hS:=hS.keep (L':=[]) [false] rfl
 refine Ws ?_
 refine zaJ (J:=Bool) (fun j=>[(0,.b j)]) (fun j H' g'=>St (·<g) H0 [] H' g'/\zeU j=some r) ?_ ?_
 ·rintro v2 H g1 ⟨hS,hM⟩
  change wpA _ _ _ _ (Fr.of [(0,.b v2)]) _ _
  replace hS:St (·<g) H0 [] H g1:=hS
  replace hM:zeU v2=some r:=hM
  refine za8 ?_
  refine zbq (x:=.b v2) (f:=fun r=>.b r) (.inr rfl) ?_ (.refl _) (Option.some.inj hM) hS
  exact (zay (zau (x:=.b v2) rfl))
 ·refine Rg 7 ?_
  refine Om (.i r1.2) ?_
  refine Oi (.b (r1.2==0)) ?_
  refine Om (.b (r1.2==0)) ?_
  rcases bft (r1.2==0) with hb3 | hb3
  ·replace hM:=ifT hM hb3
   refine Oy (want:=true) hb3 ?_
   refine Om (.i r1.1) ?_
   refine Oy (want:=true) hb3 ?_
   refine Oi (.b (r1.1==2)) ?_
   refine Pt (.b (r1.1==2)) hb3 ?_
   refine Oa (.b (r1.1==2)) ?_
   refine Ni ?_
   exact zah (r1.1==2) (.k .nil) ⟨(hS.keep [] rfl).up (by omega),hM⟩
  ·replace hM:=ifF hM hb3
   refine On (want:=true) hb3 ?_
   refine On (want:=true) hb3 ?_
   refine Pf (.b false) hb3 ?_
   refine Oa (.b false) ?_
   refine Ni ?_
   exact zah false (.k .nil) ⟨(hS.keep [] rfl).up (by omega),hM⟩
theorem zia {n:Nat} {a0:Wire} {r:(List WireFault)} (hM:zfC n a0=some r):zaI Try.prog 31 [.agg (Wire.cells a0)] (.sl .no 3 (r.map WireFault.cells)):=by
 refine zaz mixed Try.func31 rfl (by decide) Try.ntmps31 (by simp) ?pure fun H0 g hf=>?_
 case pure=>exact .sl _ _ (zaT (fun x=>(zaf (.v _) (zaf (.v _) (zaf (.v _) zaZ)))))
 rw [zar]
 change wpA _ _ _ _ (Fr.of [(0,.agg (Wire.cells a0))]) H0 g
 have hS:=St.start hf
 refine Sq ?_
 refine Rg 2 ?_
 refine zdI (v:=.agg (Wire.cells a0)) (cs:=(Wire.cells a0)) hS (by decide) rfl rfl (by omega) fun H hS=>?_
 refine Oa (.sl .nil 0 []) ?_
 refine Ni ?_
 refine zb5 (L':=[]) 0 1 hS rfl rfl rfl fun H hS=>?_
 refine Ws ?_
 refine Sq ?_
 refine Rg 1 ?_
 refine Oa (.sl .nil 0 []) ?_
 refine Ni ?_
 refine zu8 [(1,.ep (Wire.cells a0)),(3,.sl (.id (g+2+1)) 3 (([]:List WireFault).map WireFault.cells))] 3 3 52 hS (by omega) (by decide) rfl (.k (.k .nil)) fun H hS=>?_
 refine zaJ (J:=(List WireFault)) (fun j=>[(1,.ep (Wire.cells a0)),(3,.sl (.id (g+2+1)) 3 (j.map WireFault.cells))]) (fun j H' g'=>St (·<g) H0 [(g+2+1,.row 52 j.length)] H' g'/\zeG n a0 j=some r) ?_ ?_
 ·rintro v1 H g1 ⟨hS,hM⟩
  change wpA _ _ _ _ (Fr.of [(1,.ep (Wire.cells a0)),(3,.sl (.id (g+2+1)) 3 (v1.map WireFault.cells))]) _ _
  replace hS:St (·<g) H0 [(g+2+1,.row 52 v1.length)] H g1:=hS
  replace hM:zeG n a0 v1=some r:=hM
  refine zaJ (J:=(List WireFault)) (fun j=>[(1,.ep (Wire.cells a0)),(3,.sl (.id (g+2+1)) 3 (j.map WireFault.cells))]) (fun j H' g'=>St (·<g) H0 [(g+2+1,.row 52 j.length)] H' g'/\zeF n a0 j=some r) ?_ ?_
  ·rintro v2 H g2 ⟨hS,hM⟩
   change wpA _ _ _ _ (Fr.of [(1,.ep (Wire.cells a0)),(3,.sl (.id (g+2+1)) 3 (v2.map WireFault.cells))]) _ _
   replace hS:St (·<g) H0 [(g+2+1,.row 52 v2.length)] H g2:=hS
   replace hM:zeF n a0 v2=some r:=hM
   refine zaJ (J:=(List WireFault)) (fun j=>[(1,.ep (Wire.cells a0)),(3,.sl (.id (g+2+1)) 3 (j.map WireFault.cells))]) (fun j H' g'=>St (·<g) H0 [(g+2+1,.row 52 j.length)] H' g'/\zeD n a0 j=some r) ?_ ?_
   ·rintro v3 H g3 ⟨hS,hM⟩
    change wpA _ _ _ _ (Fr.of [(1,.ep (Wire.cells a0)),(3,.sl (.id (g+2+1)) 3 (v3.map WireFault.cells))]) _ _
    replace hS:St (·<g) H0 [(g+2+1,.row 52 v3.length)] H g3:=hS
    replace hM:zeD n a0 v3=some r:=hM
    refine zaJ (J:=(List WireFault)) (fun j=>[(3,.sl (.id (g+2+1)) 3 (j.map WireFault.cells))]) (fun j H' g'=>St (·<g) H0 [(g+2+1,.row 52 j.length)] H' g'/\zeB j=some r) ?_ ?_
    ·rintro v4 H g4 ⟨hS,hM⟩
     change wpA _ _ _ _ (Fr.of [(3,.sl (.id (g+2+1)) 3 (v4.map WireFault.cells))]) _ _
     replace hS:St (·<g) H0 [(g+2+1,.row 52 v4.length)] H g4:=hS
     replace hM:zeB v4=some r:=hM
     refine Sq ?_
     refine Rg 2 ?_
     refine Om (.sl (.id (g+2+1)) 3 (v4.map WireFault.cells)) ?_
     refine Oa (.sl (.id (g+2+1)) 3 (v4.map WireFault.cells)) ?_
     refine Ni ?_
     refine Ws ?_
     refine za8 ?_
     refine zbq (x:=.sl (.id (g+2+1)) 3 (v4.map WireFault.cells)) (f:=fun r=>.sl .no 3 (r.map WireFault.cells)) (.inr rfl) ?_ (.sl _ _ _) (Option.some.inj hM) hS
     exact (zay (zau (x:=.sl (.id (g+2+1)) 3 (v4.map WireFault.cells)) rfl))
    ·refine Sq ?_
     refine Rg 1 ?_
     refine Oa (.i 0) ?_
     refine Ni ?_
     refine Ws ?_
     refine zas ?_
     refine zbV (V:=(List WireFault)×Int) (fun v=>[(1,.ep (Wire.cells a0)),(3,.sl (.id (g+2+1)) 3 (v.1.map WireFault.cells)),(8,.i v.2)]) (fun v m5 H' g'=>St (·<g) H0 [(g+2+1,.row 52 v.1.length)] H' g'/\zbo n a0 m5 v.1 v.2=some r) (n:=n) (v3,0) (.k (.k (.k .nil))) ⟨(hS.keep [true] rfl).up (by omega),hM⟩ ?_
     rintro ⟨v5,v6⟩ m5 H g5 ⟨hS,hM⟩
     obtain _ | m5:=m5
     ·exact nomatch (show none=some _ from hM)
     change wpA _ _ _ _ (Fr.of [(1,.ep (Wire.cells a0)),(3,.sl (.id (g+2+1)) 3 (v5.map WireFault.cells)),(8,.i v6)]) _ _
     replace hS:St (·<g) H0 [(g+2+1,.row 52 v5.length)] H g5:=hS
     replace hM:ze6 n a0 (zbo n a0 m5) v5 v6=some r:=hM
     refine Sq ?_
     refine Sq ?_
     refine Rg 4 ?_
     refine Om (.i v6) ?_
     refine Of ((Wire.cells a0)) ze1 ?_
     refine Olp (.i a0.Numbers) zai zav ?_
     refine Oi (.b (decide (v6<a0.Numbers))) ?_
     refine Ni ?_
     refine Ws ?_
     rcases bft (decide (v6<a0.Numbers)) with hb7 | hb7
     ·replace hM:=ifT hM hb7
      refine Ct hb7 ?_
      refine zaF ?_
      refine Ws ?_
      refine zaJ (J:=(List WireFault)) (fun j=>[(1,.ep (Wire.cells a0)),(3,.sl (.id (g+2+1)) 3 (j.map WireFault.cells)),(8,.i v6)]) (fun j H' g'=>St (·<g) H0 [(g+2+1,.row 52 j.length)] H' g'/\zeC (zbo n a0 m5) v6 j=some r) ?_ ?_
      ·rintro v8 H g6 ⟨hS,hM⟩
       change wpA _ _ _ _ (Fr.of [(1,.ep (Wire.cells a0)),(3,.sl (.id (g+2+1)) 3 (v8.map WireFault.cells)),(8,.i v6)]) _ _
       replace hS:St (·<g) H0 [(g+2+1,.row 52 v8.length)] H g6:=hS
       replace hM:zeC (zbo n a0 m5) v6 v8=some r:=hM
       refine Rg 3 ?_
       refine Om (.i v6) ?_
       refine Oi (.i (w64 (v6+1))) ?_
       refine Oa (.i (w64 (v6+1))) ?_
       refine Ni ?_
       exact zbg (v8,w64 (v6+1)) (Nat.lt_succ_self _) (.k (.k (.k .nil))) ⟨(hS.keep [true] rfl).up (by omega),hM⟩
      ·refine zas ?_
       refine Sq ?_
       refine Rg 3 ?_
       refine Om (.i v6) ?_
       refine Oi (.i (w64 (v6+1))) ?_
       refine Oa (.i (w64 (v6+1))) ?_
       refine Ni ?_
       refine Ws ?_
       refine zas ?_
       refine zbV (V:=(List WireFault)×Int) (fun v=>[(1,.ep (Wire.cells a0)),(3,.sl (.id (g+2+1)) 3 (v.1.map WireFault.cells)),(8,.i v6),(9,.i v.2)]) (fun v m7 H' g'=>St (·<g) H0 [(g+2+1,.row 52 v.1.length)] H' g'/\zdA (zbo n a0 m5) a0 v6 m7 v.1 v.2=some r) (n:=n) (v5,w64 (v6+1)) (.k (.k (.k (.k .nil)))) ⟨(hS.keep [true] rfl).up (by omega),hM⟩ ?_
       rintro ⟨v9,v10⟩ m7 H g7 ⟨hS,hM⟩
       obtain _ | m7:=m7
       ·exact nomatch (show none=some _ from hM)
       change wpA _ _ _ _ (Fr.of [(1,.ep (Wire.cells a0)),(3,.sl (.id (g+2+1)) 3 (v9.map WireFault.cells)),(8,.i v6),(9,.i v10)]) _ _
       replace hS:St (·<g) H0 [(g+2+1,.row 52 v9.length)] H g7:=hS
       replace hM:ze5 (zbo n a0 m5) a0 v6 (zdA (zbo n a0 m5) a0 v6 m7) v9 v10=some r:=hM
       refine Sq ?_
       refine Sq ?_
       refine Rg 4 ?_
       refine Om (.i v10) ?_
       refine Of ((Wire.cells a0)) ze1 ?_
       refine Olp (.i a0.Numbers) zai zav ?_
       refine Oi (.b (decide (v10<a0.Numbers))) ?_
       refine Ni ?_
       refine Ws ?_
       rcases bft (decide (v10<a0.Numbers)) with hb11 | hb11
       ·replace hM:=ifT hM hb11
        refine Ct hb11 ?_
        refine zaF ?_
        refine Ws ?_
        refine Sq ?_
        refine zas ?_
        refine Rg 7 ?_
        refine Om (.sl (.id (g+2+1)) 3 (v9.map WireFault.cells)) ?_
        refine Om (.i v6) ?_
        refine Om (.i v10) ?_
        refine zdJ (cs:=[.i 4,.i v6,.i v10]) (by decide) zec zhv rfl ?_
        refine zbx (es:=[[.i 4,.i v6,.i v10]]) hS (by decide) zb0 zdO rfl zdP rfl (by decide) (by omega) fun H hS=>?_
        obtain ⟨l12,hl12,hM⟩:=zat hM
        refine zdW (xs:=v9) (ys:=([(⟨4,v6,v10⟩:WireFault)]:List WireFault)) (zs:=l12) (f:=WireFault.cells) (L':=[(g7+4+4,.row 52 1),(g+2+1,.row 52 l12.length)]) 1 hS (by decide) rfl rfl rfl rfl .no zb0 zdO zdP hl12 rfl fun H hS=>?_
        refine Oa (.sl (.id (g+2+1)) 3 (l12.map WireFault.cells)) ?_
        refine Ni ?_
        refine zae ?_
        replace hS:=hS.keep (L':=[(g+2+1,.row 52 l12.length)]) [false,true] rfl
        refine Ws ?_
        refine Rg 3 ?_
        refine Om (.i v10) ?_
        refine Oi (.i (w64 (v10+1))) ?_
        refine Oa (.i (w64 (v10+1))) ?_
        refine Ni ?_
        exact zbg (l12,w64 (v10+1)) (Nat.lt_succ_self _) (.k (.k (.k (.k .nil)))) ⟨(hS.keep [true] rfl).up (by omega),hM⟩
       ·replace hM:=ifF hM hb11
        refine Cf hb11 ?_
        refine zbS ?_
        refine zaq ?_
        refine zam ?_
        refine zaA ?_
        refine zae ?_
        exact zah v9 (.k (.k (.k .nil))) ⟨(hS.keep [true] rfl).up (by omega),hM⟩
     ·replace hM:=ifF hM hb7
      refine Cf hb7 ?_
      refine zbS ?_
      refine zaq ?_
      refine zam ?_
      refine zaA ?_
      exact zah v5 (.k .nil) ⟨(hS.keep [true] rfl).up (by omega),hM⟩
   ·refine Sq ?_
    refine Rg 1 ?_
    refine Oa (.i 0) ?_
    refine Ni ?_
    refine Ws ?_
    refine zas ?_
    refine zbV (V:=(List WireFault)×Int) (fun v=>[(1,.ep (Wire.cells a0)),(3,.sl (.id (g+2+1)) 3 (v.1.map WireFault.cells)),(6,.i v.2)]) (fun v m8 H' g'=>St (·<g) H0 [(g+2+1,.row 52 v.1.length)] H' g'/\zbp n a0 m8 v.1 v.2=some r) (n:=n) (v2,0) (.k (.k (.k .nil))) ⟨(hS.keep [true] rfl).up (by omega),hM⟩ ?_
    rintro ⟨v13,v14⟩ m8 H g8 ⟨hS,hM⟩
    obtain _ | m8:=m8
    ·exact nomatch (show none=some _ from hM)
    change wpA _ _ _ _ (Fr.of [(1,.ep (Wire.cells a0)),(3,.sl (.id (g+2+1)) 3 (v13.map WireFault.cells)),(6,.i v14)]) _ _
    replace hS:St (·<g) H0 [(g+2+1,.row 52 v13.length)] H g8:=hS
    replace hM:ze8 n a0 (zbp n a0 m8) v13 v14=some r:=hM
    refine Sq ?_
    refine Sq ?_
    refine Rg 4 ?_
    refine Om (.i v14) ?_
    refine Of ((Wire.cells a0)) zfF ?_
    refine Olp (.i a0.Letters) zai zav ?_
    refine Oi (.b (decide (v14<a0.Letters))) ?_
    refine Ni ?_
    refine Ws ?_
    rcases bft (decide (v14<a0.Letters)) with hb15 | hb15
    ·replace hM:=ifT hM hb15
     refine Ct hb15 ?_
     refine zaF ?_
     refine Ws ?_
     refine zaJ (J:=(List WireFault)) (fun j=>[(1,.ep (Wire.cells a0)),(3,.sl (.id (g+2+1)) 3 (j.map WireFault.cells)),(6,.i v14)]) (fun j H' g'=>St (·<g) H0 [(g+2+1,.row 52 j.length)] H' g'/\zeE (zbp n a0 m8) v14 j=some r) ?_ ?_
     ·rintro v16 H g9 ⟨hS,hM⟩
      change wpA _ _ _ _ (Fr.of [(1,.ep (Wire.cells a0)),(3,.sl (.id (g+2+1)) 3 (v16.map WireFault.cells)),(6,.i v14)]) _ _
      replace hS:St (·<g) H0 [(g+2+1,.row 52 v16.length)] H g9:=hS
      replace hM:zeE (zbp n a0 m8) v14 v16=some r:=hM
      refine Rg 3 ?_
      refine Om (.i v14) ?_
      refine Oi (.i (w64 (v14+1))) ?_
      refine Oa (.i (w64 (v14+1))) ?_
      refine Ni ?_
      exact zbg (v16,w64 (v14+1)) (Nat.lt_succ_self _) (.k (.k (.k .nil))) ⟨(hS.keep [true] rfl).up (by omega),hM⟩
     ·refine zas ?_
      refine Sq ?_
      refine Rg 3 ?_
      refine Om (.i v14) ?_
      refine Oi (.i (w64 (v14+1))) ?_
      refine Oa (.i (w64 (v14+1))) ?_
      refine Ni ?_
      refine Ws ?_
      refine zas ?_
      refine zbV (V:=(List WireFault)×Int) (fun v=>[(1,.ep (Wire.cells a0)),(3,.sl (.id (g+2+1)) 3 (v.1.map WireFault.cells)),(6,.i v14),(7,.i v.2)]) (fun v m10 H' g'=>St (·<g) H0 [(g+2+1,.row 52 v.1.length)] H' g'/\zdB (zbp n a0 m8) a0 v14 m10 v.1 v.2=some r) (n:=n) (v13,w64 (v14+1)) (.k (.k (.k (.k .nil)))) ⟨(hS.keep [true] rfl).up (by omega),hM⟩ ?_
      rintro ⟨v17,v18⟩ m10 H g10 ⟨hS,hM⟩
      obtain _ | m10:=m10
      ·exact nomatch (show none=some _ from hM)
      change wpA _ _ _ _ (Fr.of [(1,.ep (Wire.cells a0)),(3,.sl (.id (g+2+1)) 3 (v17.map WireFault.cells)),(6,.i v14),(7,.i v18)]) _ _
      replace hS:St (·<g) H0 [(g+2+1,.row 52 v17.length)] H g10:=hS
      replace hM:ze7 (zbp n a0 m8) a0 v14 (zdB (zbp n a0 m8) a0 v14 m10) v17 v18=some r:=hM
      refine Sq ?_
      refine Sq ?_
      refine Rg 4 ?_
      refine Om (.i v18) ?_
      refine Of ((Wire.cells a0)) zfF ?_
      refine Olp (.i a0.Letters) zai zav ?_
      refine Oi (.b (decide (v18<a0.Letters))) ?_
      refine Ni ?_
      refine Ws ?_
      rcases bft (decide (v18<a0.Letters)) with hb19 | hb19
      ·replace hM:=ifT hM hb19
       refine Ct hb19 ?_
       refine zaF ?_
       refine Ws ?_
       refine Sq ?_
       refine zas ?_
       refine Rg 7 ?_
       refine Om (.sl (.id (g+2+1)) 3 (v17.map WireFault.cells)) ?_
       refine Om (.i v14) ?_
       refine Om (.i v18) ?_
       refine zdJ (cs:=[.i 3,.i v14,.i v18]) (by decide) zec zhv rfl ?_
       refine zbx (es:=[[.i 3,.i v14,.i v18]]) hS (by decide) zb0 zdO rfl zdP rfl (by decide) (by omega) fun H hS=>?_
       obtain ⟨l20,hl20,hM⟩:=zat hM
       refine zdW (xs:=v17) (ys:=([(⟨3,v14,v18⟩:WireFault)]:List WireFault)) (zs:=l20) (f:=WireFault.cells) (L':=[(g10+4+4,.row 52 1),(g+2+1,.row 52 l20.length)]) 1 hS (by decide) rfl rfl rfl rfl .no zb0 zdO zdP hl20 rfl fun H hS=>?_
       refine Oa (.sl (.id (g+2+1)) 3 (l20.map WireFault.cells)) ?_
       refine Ni ?_
       refine zae ?_
       replace hS:=hS.keep (L':=[(g+2+1,.row 52 l20.length)]) [false,true] rfl
       refine Ws ?_
       refine Rg 3 ?_
       refine Om (.i v18) ?_
       refine Oi (.i (w64 (v18+1))) ?_
       refine Oa (.i (w64 (v18+1))) ?_
       refine Ni ?_
       exact zbg (l20,w64 (v18+1)) (Nat.lt_succ_self _) (.k (.k (.k (.k .nil)))) ⟨(hS.keep [true] rfl).up (by omega),hM⟩
      ·replace hM:=ifF hM hb19
       refine Cf hb19 ?_
       refine zbS ?_
       refine zaq ?_
       refine zam ?_
       refine zaA ?_
       refine zae ?_
       exact zah v17 (.k (.k (.k .nil))) ⟨(hS.keep [true] rfl).up (by omega),hM⟩
    ·replace hM:=ifF hM hb15
     refine Cf hb15 ?_
     refine zbS ?_
     refine zaq ?_
     refine zam ?_
     refine zaA ?_
     exact zah v13 (.k (.k .nil)) ⟨(hS.keep [true] rfl).up (by omega),hM⟩
  ·refine Sq ?_
   refine Rg 1 ?_
   refine Oa (.i 0) ?_
   refine Ni ?_
   refine Ws ?_
   refine zas ?_
   refine zbV (V:=(List WireFault)×Int) (fun v=>[(1,.ep (Wire.cells a0)),(3,.sl (.id (g+2+1)) 3 (v.1.map WireFault.cells)),(5,.i v.2)]) (fun v m11 H' g'=>St (·<g) H0 [(g+2+1,.row 52 v.1.length)] H' g'/\zdC n a0 m11 v.1 v.2=some r) (n:=n) (v1,0) (.k (.k (.k .nil))) ⟨(hS.keep [true] rfl).up (by omega),hM⟩ ?_
   rintro ⟨v21,v22⟩ m11 H g11 ⟨hS,hM⟩
   obtain _ | m11:=m11
   ·exact nomatch (show none=some _ from hM)
   change wpA _ _ _ _ (Fr.of [(1,.ep (Wire.cells a0)),(3,.sl (.id (g+2+1)) 3 (v21.map WireFault.cells)),(5,.i v22)]) _ _
   replace hS:St (·<g) H0 [(g+2+1,.row 52 v21.length)] H g11:=hS
   replace hM:ze9 n a0 (zdC n a0 m11) v21 v22=some r:=hM
   refine Sq ?_
   refine Sq ?_
   refine Rg 4 ?_
   refine Om (.i v22) ?_
   refine Of ((Wire.cells a0)) ze1 ?_
   refine Olp (.i a0.Numbers) zai zav ?_
   refine Oi (.b (decide (v22<a0.Numbers))) ?_
   refine Ni ?_
   refine Ws ?_
   rcases bft (decide (v22<a0.Numbers)) with hb23 | hb23
   ·replace hM:=ifT hM hb23
    refine Ct hb23 ?_
    refine zaF ?_
    refine Ws ?_
    refine Sq ?_
    refine zas ?_
    refine Rg 6 ?_
    refine Om (.sl (.id (g+2+1)) 3 (v21.map WireFault.cells)) ?_
    refine Om (.i v22) ?_
    refine zdJ (cs:=[.i 2,.i v22,.i 0]) (by decide) zec zhv rfl ?_
    refine zbx (es:=[[.i 2,.i v22,.i 0]]) hS (by decide) zb0 zdO rfl zdP rfl (by decide) (by omega) fun H hS=>?_
    obtain ⟨l24,hl24,hM⟩:=zat hM
    refine zdW (xs:=v21) (ys:=([(⟨2,v22,0⟩:WireFault)]:List WireFault)) (zs:=l24) (f:=WireFault.cells) (L':=[(g11+4+3,.row 52 1),(g+2+1,.row 52 l24.length)]) 1 hS (by decide) rfl rfl rfl rfl .no zb0 zdO zdP hl24 rfl fun H hS=>?_
    refine Oa (.sl (.id (g+2+1)) 3 (l24.map WireFault.cells)) ?_
    refine Ni ?_
    refine zae ?_
    replace hS:=hS.keep (L':=[(g+2+1,.row 52 l24.length)]) [false,true] rfl
    refine Ws ?_
    refine Rg 3 ?_
    refine Om (.i v22) ?_
    refine Oi (.i (w64 (v22+1))) ?_
    refine Oa (.i (w64 (v22+1))) ?_
    refine Ni ?_
    exact zbg (l24,w64 (v22+1)) (Nat.lt_succ_self _) (.k (.k (.k .nil))) ⟨(hS.keep [true] rfl).up (by omega),hM⟩
   ·replace hM:=ifF hM hb23
    refine Cf hb23 ?_
    refine zbS ?_
    refine zaq ?_
    refine zam ?_
    refine zaA ?_
    exact zah v21 (.k (.k .nil)) ⟨(hS.keep [true] rfl).up (by omega),hM⟩
 ·refine Sq ?_
  refine Rg 1 ?_
  refine Oa (.i 0) ?_
  refine Ni ?_
  refine Ws ?_
  refine zas ?_
  refine zbV (V:=(List WireFault)×Int) (fun v=>[(1,.ep (Wire.cells a0)),(3,.sl (.id (g+2+1)) 3 (v.1.map WireFault.cells)),(4,.i v.2)]) (fun v m12 H' g'=>St (·<g) H0 [(g+2+1,.row 52 v.1.length)] H' g'/\zdD n a0 m12 v.1 v.2=some r) (n:=n) (([]:List WireFault),0) (.k (.k (.k .nil))) ⟨(hS.keep [true] rfl).up (by omega),hM⟩ ?_
  rintro ⟨v25,v26⟩ m12 H g12 ⟨hS,hM⟩
  obtain _ | m12:=m12
  ·exact nomatch (show none=some _ from hM)
  change wpA _ _ _ _ (Fr.of [(1,.ep (Wire.cells a0)),(3,.sl (.id (g+2+1)) 3 (v25.map WireFault.cells)),(4,.i v26)]) _ _
  replace hS:St (·<g) H0 [(g+2+1,.row 52 v25.length)] H g12:=hS
  replace hM:zfa n a0 (zdD n a0 m12) v25 v26=some r:=hM
  refine Sq ?_
  refine Sq ?_
  refine Rg 4 ?_
  refine Om (.i v26) ?_
  refine Of ((Wire.cells a0)) zfF ?_
  refine Olp (.i a0.Letters) zai zav ?_
  refine Oi (.b (decide (v26<a0.Letters))) ?_
  refine Ni ?_
  refine Ws ?_
  rcases bft (decide (v26<a0.Letters)) with hb27 | hb27
  ·replace hM:=ifT hM hb27
   refine Ct hb27 ?_
   refine zaF ?_
   refine Ws ?_
   refine Sq ?_
   refine zas ?_
   refine Rg 6 ?_
   refine Om (.sl (.id (g+2+1)) 3 (v25.map WireFault.cells)) ?_
   refine Om (.i v26) ?_
   refine zdJ (cs:=[.i 1,.i v26,.i 0]) (by decide) zec zhv rfl ?_
   refine zbx (es:=[[.i 1,.i v26,.i 0]]) hS (by decide) zb0 zdO rfl zdP rfl (by decide) (by omega) fun H hS=>?_
   obtain ⟨l28,hl28,hM⟩:=zat hM
   refine zdW (xs:=v25) (ys:=([(⟨1,v26,0⟩:WireFault)]:List WireFault)) (zs:=l28) (f:=WireFault.cells) (L':=[(g12+4+3,.row 52 1),(g+2+1,.row 52 l28.length)]) 1 hS (by decide) rfl rfl rfl rfl .no zb0 zdO zdP hl28 rfl fun H hS=>?_
   refine Oa (.sl (.id (g+2+1)) 3 (l28.map WireFault.cells)) ?_
   refine Ni ?_
   refine zae ?_
   replace hS:=hS.keep (L':=[(g+2+1,.row 52 l28.length)]) [false,true] rfl
   refine Ws ?_
   refine Rg 3 ?_
   refine Om (.i v26) ?_
   refine Oi (.i (w64 (v26+1))) ?_
   refine Oa (.i (w64 (v26+1))) ?_
   refine Ni ?_
   exact zbg (l28,w64 (v26+1)) (Nat.lt_succ_self _) (.k (.k (.k .nil))) ⟨(hS.keep [true] rfl).up (by omega),hM⟩
  ·replace hM:=ifF hM hb27
   refine Cf hb27 ?_
   refine zbS ?_
   refine zaq ?_
   refine zam ?_
   refine zaA ?_
   exact zah v25 (.k (.k .nil)) ⟨(hS.keep [true] rfl).up (by omega),hM⟩
theorem zkC {n:Nat} {a0:List WireFault} {a1:WireFault} {r:Int} (hM:zgf n a0 a1=some r):zaI Try.prog 32 [.sl .no 3 (a0.map WireFault.cells),.agg (WireFault.cells a1)] (.i r):=by
 refine zaz mixed Try.func32 rfl (by decide) Try.ntmps32 (by simp) ?pure fun H0 g hf=>?_
 case pure=>exact .v _
 rw [zar]
 change wpA _ _ _ _ (Fr.of [(0,.sl .no 3 (a0.map WireFault.cells)),(1,.agg (WireFault.cells a1))]) H0 g
 have hS:=St.start hf
 refine Sq ?_
 refine Rg 2 ?_
 refine zdI (v:=.agg (WireFault.cells a1)) (cs:=(WireFault.cells a1)) hS (by decide) rfl rfl (by omega) fun H hS=>?_
 refine Oa (.i 0) ?_
 refine Ni ?_
 refine zb5 (L':=[]) 0 3 hS rfl rfl rfl fun H hS=>?_
 refine Ws ?_
 refine zaJ (J:=Unit) (fun j=>[]) (fun j H' g'=>St (·<g) H0 [] H' g'/\zeV=some r) ?_ ?_
 ·rintro _ H g1 ⟨hS,hM⟩
  change wpA _ _ _ _ (Fr.of []) _ _
  replace hS:St (·<g) H0 [] H g1:=hS
  replace hM:zeV=some r:=hM
  refine Sq ?_
  refine Rg 1 ?_
  refine Oa (.i (-1)) ?_
  refine Ni ?_
  refine Ws ?_
  refine za8 ?_
  refine zbq (x:=.i (-1)) (f:=fun r=>.i r) (.inr rfl) ?_ (.refl _) (Option.some.inj hM) hS
  exact (zay (zau (x:=.i (-1)) rfl))
 ·refine Sq ?_
  refine Rg 1 ?_
  refine Oa (.i 0) ?_
  refine Ni ?_
  refine Ws ?_
  refine zas ?_
  refine zbV (V:=Int) (fun v=>[(0,.sl .no 3 (a0.map WireFault.cells)),(3,.ep (WireFault.cells a1)),(5,.i v)]) (fun v m2 H' g'=>St (·<g) H0 [] H' g'/\zcZ a0 a1 m2 v=some r) (n:=n) 0 (.k (.k (.k .nil))) ⟨(hS.keep [] rfl).up (by omega),hM⟩ ?_
  rintro v1 m2 H g2 ⟨hS,hM⟩
  obtain _ | m2:=m2
  ·exact nomatch (show none=some _ from hM)
  change wpA _ _ _ _ (Fr.of [(0,.sl .no 3 (a0.map WireFault.cells)),(3,.ep (WireFault.cells a1)),(5,.i v1)]) _ _
  replace hS:St (·<g) H0 [] H g2:=hS
  replace hM:zeh a0 a1 (zcZ a0 a1 m2) v1=some r:=hM
  refine Sq ?_
  refine Sq ?_
  refine Rg 4 ?_
  refine Om (.i v1) ?_
  refine Om (.sl .no 3 (a0.map WireFault.cells)) ?_
  refine zc7 (n:=a0.length) (by decide) rfl (List.length_map _) zfp ?_
  refine Oi (.b (decide (v1<(a0.length:Int)))) ?_
  refine Ni ?_
  refine Ws ?_
  rcases bft (decide (v1<(a0.length:Int))) with hb2 | hb2
  ·replace hM:=ifT hM hb2
   refine Ct hb2 ?_
   refine zaF ?_
   refine Ws ?_
   refine Sq ?_
   refine zas ?_
   refine Sq ?_
   have hS0:=hS
   refine zd6 (n:=6) rfl (by kernel_rfl) ?_
   refine Om (.sl .no 3 (a0.map WireFault.cells)) ?_
   refine Om (.i v1) ?_
   obtain ⟨x3,hx3,hM⟩:=zat hM
   refine zce (xs:=a0) (f:=WireFault.cells) (z:=v1) (u:=x3) (by decide) rfl rfl zb0 hx3 ?_
   refine Olg (.agg (WireFault.cells x3)) zcE ?_
   refine Olg (.agg (WireFault.cells a1)) zcE ?_
   refine zr3 (cs:=(WireFault.cells x3)) (ds:=(WireFault.cells a1)) (e:=((x3.Kind==a1.Kind)&&((x3.A==a1.A)&&((x3.B==a1.B)&&true)))) (by decide) rfl rfl zk8 rfl ?_
   refine Ni ?_
   refine Ws ?_
   rcases bft ((x3.Kind==a1.Kind)&&((x3.A==a1.A)&&((x3.B==a1.B)&&true))) with hb4 | hb4
   ·replace hM:=ifT hM hb4
    refine Ct hb4 ?_
    refine Sq ?_
    refine Rg 2 ?_
    refine Om (.i v1) ?_
    refine Oa (.i v1) ?_
    refine Ni ?_
    refine Ws ?_
    refine za8 ?_
    refine zaS ?_
    refine zaC ?_
    refine zbG ?_
    refine zaS ?_
    refine zci ?_
    refine zbq (x:=.i v1) (f:=fun r=>.i r) (.inr rfl) ?_ (.refl _) (Option.some.inj hM) hS
    exact (zay (zau (x:=.i v1) rfl))
   ·replace hM:=ifF hM hb4
    refine Cf hb4 ?_
    refine zaF ?_
    refine zae ?_
    refine Ws ?_
    refine Rg 3 ?_
    refine Om (.i v1) ?_
    refine Oi (.i (w64 (v1+1))) ?_
    refine Oa (.i (w64 (v1+1))) ?_
    refine Ni ?_
    exact zbg (w64 (v1+1)) (Nat.lt_succ_self _) (.k (.k (.k .nil))) ⟨(hS.keep [] rfl).up (by omega),hM⟩
  ·replace hM:=ifF hM hb2
   refine Cf hb2 ?_
   refine zbS ?_
   refine zaq ?_
   refine zam ?_
   refine zaA ?_
   exact zah () .nil ⟨(hS.keep [] rfl).up (by omega),hM⟩
theorem zkD {a0:WireFault} {a1:WireFault} {r:Bool} (hM:zht a0 a1=some r):zaI Try.prog 33 [.agg (WireFault.cells a0),.agg (WireFault.cells a1)] (.b r):=by
 refine zaz mixed Try.func33 rfl (by decide) Try.ntmps33 (by simp) ?pure fun H0 g hf=>?_
 case pure=>exact .v _
 rw [zar]
 change wpA _ _ _ _ (Fr.of [(0,.agg (WireFault.cells a0)),(1,.agg (WireFault.cells a1))]) H0 g
 have hS:=St.start hf
 refine Sq ?_
 refine Rg 3 ?_
 refine zdI (v:=.agg (WireFault.cells a0)) (cs:=(WireFault.cells a0)) hS (by decide) rfl rfl (by omega) fun H hS=>?_
 refine zdI (v:=.agg (WireFault.cells a1)) (cs:=(WireFault.cells a1)) hS (by decide) rfl rfl (by omega) fun H hS=>?_
 refine Oa (.b false) ?_
 refine Ni ?_
 refine zb5 (L':=[(g+1,.cells (WireFault.cells a1))]) 1 2 hS rfl rfl rfl fun H hS=>?_
 refine zb5 (L':=[]) 0 3 hS rfl rfl rfl fun H hS=>?_
 refine Ws ?_
 refine zaJ (J:=Bool) (fun j=>[(4,.b j)]) (fun j H' g'=>St (·<g) H0 [] H' g'/\zcF j=some r) ?_ ?_
 ·rintro v1 H g1 ⟨hS,hM⟩
  change wpA _ _ _ _ (Fr.of [(4,.b v1)]) _ _
  replace hS:St (·<g) H0 [] H g1:=hS
  replace hM:zcF v1=some r:=hM
  refine za8 ?_
  refine zbq (x:=.b v1) (f:=fun r=>.b r) (.inr rfl) ?_ (.refl _) (Option.some.inj hM) hS
  exact (zay (zau (x:=.b v1) rfl))
 ·refine Rg 39 ?_
  refine Of ((WireFault.cells a0)) zdQ ?_
  refine Olp (.i a0.Kind) zai zav ?_
  refine Of ((WireFault.cells a1)) zdQ ?_
  refine Olp (.i a1.Kind) zai zav ?_
  refine Oi (.b (a0.Kind==a1.Kind)) ?_
  refine Om (.b (a0.Kind==a1.Kind)) ?_
  rcases bft (a0.Kind==a1.Kind) with hb2 | hb2
  ·replace hM:=ifT hM hb2
   refine Oy (want:=true) hb2 ?_
   refine Of ((WireFault.cells a0)) zdQ ?_
   refine Oy (want:=true) hb2 ?_
   refine Olp (.i a0.Kind) zai zav ?_
   refine Oy (want:=true) hb2 ?_
   refine Oi (.b (decide (a0.Kind≥3))) ?_
   refine Pt (.b (decide (a0.Kind≥3))) hb2 ?_
   refine Om (.b (decide (a0.Kind≥3))) ?_
   rcases bft (decide (a0.Kind≥3)) with hb3 | hb3
   ·replace hM:=ifT hM hb3
    refine Oy (want:=true) hb3 ?_
    refine Of ((WireFault.cells a0)) zcX ?_
    refine Oy (want:=true) hb3 ?_
    refine Olp (.i a0.A) zai zav ?_
    refine Oy (want:=true) hb3 ?_
    refine Of ((WireFault.cells a1)) zcX ?_
    refine Oy (want:=true) hb3 ?_
    refine Olp (.i a1.A) zai zav ?_
    refine Oy (want:=true) hb3 ?_
    refine Oi (.b (a0.A==a1.A)) ?_
    refine Oy (want:=true) hb3 ?_
    refine Om (.b (a0.A==a1.A)) ?_
    rcases bft (a0.A==a1.A) with hb4 | hb4
    ·replace hM:=ifT hM hb4
     refine On (want:=false) hb4 ?_
     refine On (want:=false) hb4 ?_
     refine On (want:=false) hb4 ?_
     refine On (want:=false) hb4 ?_
     refine On (want:=false) hb4 ?_
     refine Oy (want:=true) hb3 ?_
     refine Pt (.b true) hb4 ?_
     refine Oy (want:=true) hb3 ?_
     refine Om (.b true) ?_
     refine Og ?_
     refine Og ?_
     refine Og ?_
     refine Og ?_
     refine Og ?_
     refine Oy (want:=true) hb3 ?_
     refine zcA (v:=.b true) (e:=true) (by decide) rfl rfl rfl ?_
     refine Oy (want:=true) hb3 ?_
     refine Om (.b true) ?_
     refine Og ?_
     refine Og ?_
     refine Og ?_
     refine Og ?_
     refine Og ?_
     refine Oy (want:=true) hb3 ?_
     refine zcA (v:=.b true) (e:=true) (by decide) rfl rfl rfl ?_
     refine Pt (.b true) hb3 ?_
     refine Oa (.b true) ?_
     refine Ni ?_
     exact zah true (.k .nil) ⟨(hS.keep [] rfl).up (by omega),hM⟩
    ·replace hM:=ifF hM hb4
     refine Oy (want:=false) hb4 ?_
     refine Of ((WireFault.cells a0)) zcX ?_
     refine Oy (want:=false) hb4 ?_
     refine Olp (.i a0.A) zai zav ?_
     refine Oy (want:=false) hb4 ?_
     refine Of ((WireFault.cells a1)) zdq ?_
     refine Oy (want:=false) hb4 ?_
     refine Olp (.i a1.B) zai zav ?_
     refine Oy (want:=false) hb4 ?_
     refine Oi (.b (a0.A==a1.B)) ?_
     refine Oy (want:=true) hb3 ?_
     refine Pf (.b (a0.A==a1.B)) hb4 ?_
     refine Oy (want:=true) hb3 ?_
     refine Om (.b (a0.A==a1.B)) ?_
     rcases bft (a0.A==a1.B) with hb5 | hb5
     ·replace hM:=ifT hM hb5
      refine On (want:=false) hb5 ?_
      refine On (want:=false) hb5 ?_
      refine On (want:=false) hb5 ?_
      refine On (want:=false) hb5 ?_
      refine On (want:=false) hb5 ?_
      refine Oy (want:=true) hb3 ?_
      refine Pt (.b true) hb5 ?_
      refine Oy (want:=true) hb3 ?_
      refine Om (.b true) ?_
      refine Og ?_
      refine Og ?_
      refine Og ?_
      refine Og ?_
      refine Og ?_
      refine Oy (want:=true) hb3 ?_
      refine zcA (v:=.b true) (e:=true) (by decide) rfl rfl rfl ?_
      refine Pt (.b true) hb3 ?_
      refine Oa (.b true) ?_
      refine Ni ?_
      exact zah true (.k .nil) ⟨(hS.keep [] rfl).up (by omega),hM⟩
     ·replace hM:=ifF hM hb5
      refine Oy (want:=false) hb5 ?_
      refine Of ((WireFault.cells a0)) zdq ?_
      refine Oy (want:=false) hb5 ?_
      refine Olp (.i a0.B) zai zav ?_
      refine Oy (want:=false) hb5 ?_
      refine Of ((WireFault.cells a1)) zcX ?_
      refine Oy (want:=false) hb5 ?_
      refine Olp (.i a1.A) zai zav ?_
      refine Oy (want:=false) hb5 ?_
      refine Oi (.b (a0.B==a1.A)) ?_
      refine Oy (want:=true) hb3 ?_
      refine Pf (.b (a0.B==a1.A)) hb5 ?_
      refine Oy (want:=true) hb3 ?_
      refine Om (.b (a0.B==a1.A)) ?_
      rcases bft (a0.B==a1.A) with hb6 | hb6
      ·replace hM:=ifT hM hb6
       refine On (want:=false) hb6 ?_
       refine On (want:=false) hb6 ?_
       refine On (want:=false) hb6 ?_
       refine On (want:=false) hb6 ?_
       refine On (want:=false) hb6 ?_
       refine Oy (want:=true) hb3 ?_
       refine Pt (.b true) hb6 ?_
       refine Pt (.b true) hb3 ?_
       refine Oa (.b true) ?_
       refine Ni ?_
       exact zah true (.k .nil) ⟨(hS.keep [] rfl).up (by omega),hM⟩
      ·replace hM:=ifF hM hb6
       refine Oy (want:=false) hb6 ?_
       refine Of ((WireFault.cells a0)) zdq ?_
       refine Oy (want:=false) hb6 ?_
       refine Olp (.i a0.B) zai zav ?_
       refine Oy (want:=false) hb6 ?_
       refine Of ((WireFault.cells a1)) zdq ?_
       refine Oy (want:=false) hb6 ?_
       refine Olp (.i a1.B) zai zav ?_
       refine Oy (want:=false) hb6 ?_
       refine Oi (.b (a0.B==a1.B)) ?_
       refine Oy (want:=true) hb3 ?_
       refine Pf (.b (a0.B==a1.B)) hb6 ?_
       refine Pt (.b (a0.B==a1.B)) hb3 ?_
       refine Oa (.b (a0.B==a1.B)) ?_
       refine Ni ?_
       exact zah (a0.B==a1.B) (.k .nil) ⟨(hS.keep [] rfl).up (by omega),hM⟩
   ·replace hM:=ifF hM hb3
    refine On (want:=true) hb3 ?_
    refine On (want:=true) hb3 ?_
    refine On (want:=true) hb3 ?_
    refine On (want:=true) hb3 ?_
    refine On (want:=true) hb3 ?_
    refine On (want:=true) hb3 ?_
    refine zaj (j:=16) (by decide) rfl ?_
    refine zaj (j:=16) (by decide) rfl ?_
    refine zaj (j:=16) (by decide) rfl ?_
    refine zaj (j:=16) (by decide) rfl ?_
    refine zaj (j:=16) (by decide) rfl ?_
    refine On (want:=true) hb3 ?_
    refine On (want:=true) hb3 ?_
    refine zaj (j:=23) (by decide) rfl ?_
    refine zaj (j:=23) (by decide) rfl ?_
    refine zaj (j:=23) (by decide) rfl ?_
    refine zaj (j:=23) (by decide) rfl ?_
    refine zaj (j:=23) (by decide) rfl ?_
    refine On (want:=true) hb3 ?_
    refine On (want:=true) hb3 ?_
    refine zaj (j:=30) (by decide) rfl ?_
    refine zaj (j:=30) (by decide) rfl ?_
    refine zaj (j:=30) (by decide) rfl ?_
    refine zaj (j:=30) (by decide) rfl ?_
    refine zaj (j:=30) (by decide) rfl ?_
    refine On (want:=true) hb3 ?_
    refine Pf (.b false) hb3 ?_
    refine Oa (.b false) ?_
    refine Ni ?_
    exact zah false (.k .nil) ⟨(hS.keep [] rfl).up (by omega),hM⟩
  ·replace hM:=ifF hM hb2
   refine On (want:=true) hb2 ?_
   refine On (want:=true) hb2 ?_
   refine On (want:=true) hb2 ?_
   refine Pf (.b false) hb2 ?_
   refine Om (.b false) ?_
   refine Og ?_
   refine Og ?_
   refine Og ?_
   refine Og ?_
   refine Og ?_
   refine Og ?_
   refine zaj (j:=16) (by decide) rfl ?_
   refine zaj (j:=16) (by decide) rfl ?_
   refine zaj (j:=16) (by decide) rfl ?_
   refine zaj (j:=16) (by decide) rfl ?_
   refine zaj (j:=16) (by decide) rfl ?_
   refine Og ?_
   refine Og ?_
   refine zaj (j:=23) (by decide) rfl ?_
   refine zaj (j:=23) (by decide) rfl ?_
   refine zaj (j:=23) (by decide) rfl ?_
   refine zaj (j:=23) (by decide) rfl ?_
   refine zaj (j:=23) (by decide) rfl ?_
   refine Og ?_
   refine Og ?_
   refine zaj (j:=30) (by decide) rfl ?_
   refine zaj (j:=30) (by decide) rfl ?_
   refine zaj (j:=30) (by decide) rfl ?_
   refine zaj (j:=30) (by decide) rfl ?_
   refine zaj (j:=30) (by decide) rfl ?_
   refine Og ?_
   refine zbl (v:=.b false) (e:=false) (by decide) rfl rfl rfl ?_
   refine Oa (.b false) ?_
   refine Ni ?_
   exact zah false (.k .nil) ⟨(hS.keep [] rfl).up (by omega),hM⟩
theorem zkE {n:Nat} {a0:Wire} {a1:List WireFault} {r:Bool} (hM:zfD n a0 a1=some r):zaI Try.prog 13 [.agg (Wire.cells a0),.sl .no 3 (a1.map WireFault.cells)] (.b r):=by
 refine zaz mixed Try.func13 rfl (by decide) Try.ntmps13 (by simp) ?pure fun H0 g hf=>?_
 case pure=>exact .v _
 rw [zar]
 change wpA _ _ _ _ (Fr.of [(0,.agg (Wire.cells a0)),(1,.sl .no 3 (a1.map WireFault.cells))]) H0 g
 have hS:=St.start hf
 refine Sq ?_
 refine Rg 2 ?_
 refine zdI (v:=.agg (Wire.cells a0)) (cs:=(Wire.cells a0)) hS (by decide) rfl rfl (by omega) fun H hS=>?_
 refine Oa (.b false) ?_
 refine Ni ?_
 refine zb5 (L':=[]) 0 2 hS rfl rfl rfl fun H hS=>?_
 refine Ws ?_
 refine Sq ?_
 refine Rg 4 ?_
 refine Olg (.agg (Wire.cells a0)) zeX ?_
 obtain ⟨r1,hr1,hM⟩:=zat hM
 refine zaU (bs:=[.agg (Wire.cells a0)]) (by decide) rfl rfl ((zia hr1).le (.k .nil)) ?_
 refine Oa (.sl .no 3 (r1.map WireFault.cells)) ?_
 refine Oa (.i (-1)) ?_
 refine Ni ?_
 refine Ws ?_
 refine zaJ (J:=Unit) (fun j=>[]) (fun j H' g'=>St (·<g) H0 [] H' g'/\zeW=some r) ?_ ?_
 ·rintro _ H g1 ⟨hS,hM⟩
  change wpA _ _ _ _ (Fr.of []) _ _
  replace hS:St (·<g) H0 [] H g1:=hS
  replace hM:zeW=some r:=hM
  refine Sq ?_
  refine Rg 1 ?_
  refine Oa (.b true) ?_
  refine Ni ?_
  refine Ws ?_
  refine za8 ?_
  refine zbq (x:=.b true) (f:=fun r=>.b r) (.inr rfl) ?_ (.refl _) (Option.some.inj hM) hS
  exact (zay (zau (x:=.b true) rfl))
 ·refine Sq ?_
  refine Rg 1 ?_
  refine Oa (.i 0) ?_
  refine Ni ?_
  refine Ws ?_
  refine zas ?_
  refine zbV (V:=Int×Int) (fun v=>[(1,.sl .no 3 (a1.map WireFault.cells)),(5,.sl .no 3 (r1.map WireFault.cells)),(6,.i v.1),(7,.i v.2)]) (fun v m2 H' g'=>St (·<g) H0 [] H' g'/\zbc n a1 r1 m2 v.1 v.2=some r) (n:=n) ((-1),0) (.k (.k (.k (.k .nil)))) ⟨(hS.keep [] rfl).up (by omega),hM⟩ ?_
  rintro ⟨v2,v3⟩ m2 H g2 ⟨hS,hM⟩
  obtain _ | m2:=m2
  ·exact nomatch (show none=some _ from hM)
  change wpA _ _ _ _ (Fr.of [(1,.sl .no 3 (a1.map WireFault.cells)),(5,.sl .no 3 (r1.map WireFault.cells)),(6,.i v2),(7,.i v3)]) _ _
  replace hS:St (·<g) H0 [] H g2:=hS
  replace hM:zej n a1 r1 (zbc n a1 r1 m2) v2 v3=some r:=hM
  refine Sq ?_
  refine Sq ?_
  refine Rg 4 ?_
  refine Om (.i v3) ?_
  refine Om (.sl .no 3 (a1.map WireFault.cells)) ?_
  refine zc7 (n:=a1.length) (by decide) rfl (List.length_map _) zfp ?_
  refine Oi (.b (decide (v3<(a1.length:Int)))) ?_
  refine Ni ?_
  refine Ws ?_
  rcases bft (decide (v3<(a1.length:Int))) with hb4 | hb4
  ·replace hM:=ifT hM hb4
   refine Ct hb4 ?_
   refine zaF ?_
   refine Ws ?_
   refine zaJ (J:=Int) (fun j=>[(1,.sl .no 3 (a1.map WireFault.cells)),(5,.sl .no 3 (r1.map WireFault.cells)),(6,.i j),(7,.i v3)]) (fun j H' g'=>St (·<g) H0 [] H' g'/\zeb (zbc n a1 r1 m2) v3 j=some r) ?_ ?_
   ·rintro v5 H g3 ⟨hS,hM⟩
    change wpA _ _ _ _ (Fr.of [(1,.sl .no 3 (a1.map WireFault.cells)),(5,.sl .no 3 (r1.map WireFault.cells)),(6,.i v5),(7,.i v3)]) _ _
    replace hS:St (·<g) H0 [] H g3:=hS
    replace hM:zeb (zbc n a1 r1 m2) v3 v5=some r:=hM
    refine Rg 3 ?_
    refine Om (.i v3) ?_
    refine Oi (.i (w64 (v3+1))) ?_
    refine Oa (.i (w64 (v3+1))) ?_
    refine Ni ?_
    exact zbg (v5,w64 (v3+1)) (Nat.lt_succ_self _) (.k (.k (.k (.k .nil)))) ⟨(hS.keep [] rfl).up (by omega),hM⟩
   ·refine zas ?_
    refine Sq ?_
    refine Rg 7 ?_
    refine Om (.sl .no 3 (r1.map WireFault.cells)) ?_
    refine Om (.sl .no 3 (a1.map WireFault.cells)) ?_
    refine Om (.i v3) ?_
    obtain ⟨x6,hx6,hM⟩:=zat hM
    refine zce (xs:=a1) (f:=WireFault.cells) (z:=v3) (u:=x6) (by decide) rfl rfl zb0 hx6 ?_
    refine Olg (.agg (WireFault.cells x6)) zcE ?_
    obtain ⟨r7,hr7,hM⟩:=zat hM
    refine zaU (bs:=[.sl .no 3 (r1.map WireFault.cells),.agg (WireFault.cells x6)]) (by decide) rfl rfl ((zkC hr7).le (.k (.k .nil))) ?_
    refine Oa (.i r7) ?_
    refine Ni ?_
    refine Ws ?_
    refine Sq ?_
    refine Sq ?_
    refine Rg 3 ?_
    refine Om (.i r7) ?_
    refine Om (.i v2) ?_
    refine Oi (.b (decide (r7<=v2))) ?_
    refine Ni ?_
    refine Ws ?_
    rcases bft (decide (r7<=v2)) with hb8 | hb8
    ·replace hM:=ifT hM hb8
     refine Ct hb8 ?_
     refine Sq ?_
     refine Rg 1 ?_
     refine Oa (.b false) ?_
     refine Ni ?_
     refine Ws ?_
     refine za8 ?_
     refine zaC ?_
     refine zaS ?_
     refine zci ?_
     refine zbG ?_
     refine zaS ?_
     refine zci ?_
     refine zbq (x:=.b false) (f:=fun r=>.b r) (.inr rfl) ?_ (.refl _) (Option.some.inj hM) hS
     exact (zay (zau (x:=.b false) rfl))
    ·replace hM:=ifF hM hb8
     refine Cf hb8 ?_
     refine zaF ?_
     refine Ws ?_
     refine Sq ?_
     refine Rg 2 ?_
     refine Om (.i r7) ?_
     refine Oa (.i r7) ?_
     refine Ni ?_
     refine Ws ?_
     refine Sq ?_
     refine Rg 1 ?_
     refine Oa (.i 0) ?_
     refine Ni ?_
     refine Ws ?_
     refine zas ?_
     refine zbV (V:=Int) (fun v=>[(1,.sl .no 3 (a1.map WireFault.cells)),(5,.sl .no 3 (r1.map WireFault.cells)),(6,.i r7),(7,.i v3),(9,.i v)]) (fun v m4 H' g'=>St (·<g) H0 [] H' g'/\zc0 (zbc n a1 r1 m2) a1 v3 r7 m4 v=some r) (n:=n) 0 (.k (.k (.k (.k (.k .nil))))) ⟨(hS.keep [] rfl).up (by omega),hM⟩ ?_
     rintro v9 m4 H g4 ⟨hS,hM⟩
     obtain _ | m4:=m4
     ·exact nomatch (show none=some _ from hM)
     change wpA _ _ _ _ (Fr.of [(1,.sl .no 3 (a1.map WireFault.cells)),(5,.sl .no 3 (r1.map WireFault.cells)),(6,.i r7),(7,.i v3),(9,.i v9)]) _ _
     replace hS:St (·<g) H0 [] H g4:=hS
     replace hM:zei (zbc n a1 r1 m2) a1 v3 r7 (zc0 (zbc n a1 r1 m2) a1 v3 r7 m4) v9=some r:=hM
     refine Sq ?_
     refine Sq ?_
     refine Rg 3 ?_
     refine Om (.i v9) ?_
     refine Om (.i v3) ?_
     refine Oi (.b (decide (v9<v3))) ?_
     refine Ni ?_
     refine Ws ?_
     rcases bft (decide (v9<v3)) with hb10 | hb10
     ·replace hM:=ifT hM hb10
      refine Ct hb10 ?_
      refine zaF ?_
      refine Ws ?_
      refine Sq ?_
      refine zas ?_
      refine Sq ?_
      have hS0:=hS
      refine zd6 (n:=9) rfl (by kernel_rfl) ?_
      refine Om (.sl .no 3 (a1.map WireFault.cells)) ?_
      refine Om (.i v9) ?_
      obtain ⟨x11,hx11,hM⟩:=zat hM
      refine zce (xs:=a1) (f:=WireFault.cells) (z:=v9) (u:=x11) (by decide) rfl rfl zb0 hx11 ?_
      refine Olg (.agg (WireFault.cells x11)) zcE ?_
      refine Om (.sl .no 3 (a1.map WireFault.cells)) ?_
      refine Om (.i v3) ?_
      obtain ⟨x12,hx12,hM⟩:=zat hM
      refine zce (xs:=a1) (f:=WireFault.cells) (z:=v3) (u:=x12) (by decide) rfl rfl zb0 hx12 ?_
      refine Olg (.agg (WireFault.cells x12)) zcE ?_
      obtain ⟨r13,hr13,hM⟩:=zat hM
      refine zaU (bs:=[.agg (WireFault.cells x11),.agg (WireFault.cells x12)]) (by decide) rfl rfl ((zkD hr13).le (.k (.k .nil))) ?_
      refine Ni ?_
      refine Ws ?_
      rcases bft r13 with hb14 | hb14
      ·replace hM:=ifT hM hb14
       refine Ct hb14 ?_
       refine Sq ?_
       refine Rg 1 ?_
       refine Oa (.b false) ?_
       refine Ni ?_
       refine Ws ?_
       refine za8 ?_
       refine zaS ?_
       refine zaC ?_
       refine zbG ?_
       refine zaS ?_
       refine zaS ?_
       refine zci ?_
       refine zbG ?_
       refine zaS ?_
       refine zci ?_
       refine zbq (x:=.b false) (f:=fun r=>.b r) (.inr rfl) ?_ (.refl _) (Option.some.inj hM) hS
       exact (zay (zau (x:=.b false) rfl))
      ·replace hM:=ifF hM hb14
       refine Cf hb14 ?_
       refine zaF ?_
       refine zae ?_
       refine Ws ?_
       refine Rg 3 ?_
       refine Om (.i v9) ?_
       refine Oi (.i (w64 (v9+1))) ?_
       refine Oa (.i (w64 (v9+1))) ?_
       refine Ni ?_
       exact zbg (w64 (v9+1)) (Nat.lt_succ_self _) (.k (.k (.k (.k (.k .nil))))) ⟨(hS.keep [] rfl).up (by omega),hM⟩
     ·replace hM:=ifF hM hb10
      refine Cf hb10 ?_
      refine zbS ?_
      refine zaq ?_
      refine zam ?_
      refine zaA ?_
      refine zae ?_
      exact zah r7 (.k (.k (.k (.k .nil)))) ⟨(hS.keep [] rfl).up (by omega),hM⟩
  ·replace hM:=ifF hM hb4
   refine Cf hb4 ?_
   refine zbS ?_
   refine zaq ?_
   refine zam ?_
   refine zaA ?_
   exact zah () .nil ⟨(hS.keep [] rfl).up (by omega),hM⟩
theorem zib {n:Nat} {a0:List TrayPlay} {a1:List TrayPlay} {r:Bool} (hM:zeH n a0 a1=some r):zaI Try.prog 18 [.sl .no 2 (a0.map TrayPlay.cells),.sl .no 2 (a1.map TrayPlay.cells)] (.b r):=by
 refine zaz mixed Try.func18 rfl (by decide) Try.ntmps18 (by simp) ?pure fun H0 g hf=>?_
 case pure=>exact .v _
 rw [zar]
 change wpA _ _ _ _ (Fr.of [(0,.sl .no 2 (a0.map TrayPlay.cells)),(1,.sl .no 2 (a1.map TrayPlay.cells))]) H0 g
 have hS:=St.start hf
 refine Sq ?_
 refine Rg 1 ?_
 refine Oa (.b false) ?_
 refine Ni ?_
 refine Ws ?_
 refine Sq ?_
 refine Sq ?_
 refine Rg 5 ?_
 refine Om (.sl .no 2 (a0.map TrayPlay.cells)) ?_
 refine zc7 (n:=a0.length) (by decide) rfl (List.length_map _) zkt ?_
 refine Om (.sl .no 2 (a1.map TrayPlay.cells)) ?_
 refine zc7 (n:=a1.length) (by decide) rfl (List.length_map _) zkt ?_
 refine Oi (.b ((a0.length:Int) != (a1.length:Int))) ?_
 refine Ni ?_
 refine Ws ?_
 rcases bft ((a0.length:Int) != (a1.length:Int)) with hb1 | hb1
 ·replace hM:=ifT hM hb1
  refine Ct hb1 ?_
  refine Sq ?_
  refine Rg 1 ?_
  refine Oa (.b false) ?_
  refine Ni ?_
  refine Ws ?_
  refine za8 ?_
  refine zaC ?_
  refine zbq (x:=.b false) (f:=fun r=>.b r) (.inr rfl) ?_ (.refl _) (Option.some.inj hM) hS
  exact (zay (zau (x:=.b false) rfl))
 ·replace hM:=ifF hM hb1
  refine Cf hb1 ?_
  refine zaF ?_
  refine Ws ?_
  refine zaJ (J:=Unit) (fun j=>[]) (fun j H' g'=>St (·<g) H0 [] H' g'/\zdE=some r) ?_ ?_
  ·rintro _ H g1 ⟨hS,hM⟩
   change wpA _ _ _ _ (Fr.of []) _ _
   replace hS:St (·<g) H0 [] H g1:=hS
   replace hM:zdE=some r:=hM
   refine Sq ?_
   refine Rg 1 ?_
   refine Oa (.b true) ?_
   refine Ni ?_
   refine Ws ?_
   refine za8 ?_
   refine zbq (x:=.b true) (f:=fun r=>.b r) (.inr rfl) ?_ (.refl _) (Option.some.inj hM) hS
   exact (zay (zau (x:=.b true) rfl))
  ·refine Sq ?_
   refine Rg 1 ?_
   refine Oa (.i 0) ?_
   refine Ni ?_
   refine Ws ?_
   refine zas ?_
   refine zbV (V:=Int) (fun v=>[(0,.sl .no 2 (a0.map TrayPlay.cells)),(1,.sl .no 2 (a1.map TrayPlay.cells)),(5,.i v)]) (fun v m2 H' g'=>St (·<g) H0 [] H' g'/\zb8 a0 a1 m2 v=some r) (n:=n) 0 (.k (.k (.k .nil))) ⟨(hS.keep [] rfl).up (by omega),hM⟩ ?_
   rintro v2 m2 H g2 ⟨hS,hM⟩
   obtain _ | m2:=m2
   ·exact nomatch (show none=some _ from hM)
   change wpA _ _ _ _ (Fr.of [(0,.sl .no 2 (a0.map TrayPlay.cells)),(1,.sl .no 2 (a1.map TrayPlay.cells)),(5,.i v2)]) _ _
   replace hS:St (·<g) H0 [] H g2:=hS
   replace hM:zc4 a0 a1 (zb8 a0 a1 m2) v2=some r:=hM
   refine Sq ?_
   refine Sq ?_
   refine Rg 4 ?_
   refine Om (.i v2) ?_
   refine Om (.sl .no 2 (a0.map TrayPlay.cells)) ?_
   refine zc7 (n:=a0.length) (by decide) rfl (List.length_map _) zkt ?_
   refine Oi (.b (decide (v2<(a0.length:Int)))) ?_
   refine Ni ?_
   refine Ws ?_
   rcases bft (decide (v2<(a0.length:Int))) with hb3 | hb3
   ·replace hM:=ifT hM hb3
    refine Ct hb3 ?_
    refine zaF ?_
    refine Ws ?_
    refine Sq ?_
    refine zas ?_
    refine Sq ?_
    have hS0:=hS
    refine zd6 (n:=9) rfl (by kernel_rfl) ?_
    refine Om (.sl .no 2 (a0.map TrayPlay.cells)) ?_
    refine Om (.i v2) ?_
    obtain ⟨x4,hx4,hM⟩:=zat hM
    refine zce (xs:=a0) (f:=TrayPlay.cells) (z:=v2) (u:=x4) (by decide) rfl rfl zku hx4 ?_
    refine Olg (.agg [.i x4.Side,.i x4.Time]) zmr ?_
    refine Om (.sl .no 2 (a1.map TrayPlay.cells)) ?_
    refine Om (.i v2) ?_
    obtain ⟨x5,hx5,hM⟩:=zat hM
    refine zce (xs:=a1) (f:=TrayPlay.cells) (z:=v2) (u:=x5) (by decide) rfl rfl zku hx5 ?_
    refine Olg (.agg [.i x5.Side,.i x5.Time]) zmr ?_
    refine zva (cs:=[.i x4.Side,.i x4.Time]) (ds:=[.i x5.Side,.i x5.Time]) (e:=((x4.Side==x5.Side)&&((x4.Time==x5.Time)&&true))) (by decide) rfl rfl zow rfl ?_
    refine Ni ?_
    refine Ws ?_
    rcases bft (!((x4.Side==x5.Side)&&((x4.Time==x5.Time)&&true))) with hb6 | hb6
    ·replace hM:=ifT hM hb6
     refine Ct hb6 ?_
     refine Sq ?_
     refine Rg 1 ?_
     refine Oa (.b false) ?_
     refine Ni ?_
     refine Ws ?_
     refine za8 ?_
     refine zaS ?_
     refine zaC ?_
     refine zbG ?_
     refine zaS ?_
     refine zci ?_
     refine zbq (x:=.b false) (f:=fun r=>.b r) (.inr rfl) ?_ (.refl _) (Option.some.inj hM) hS
     exact (zay (zau (x:=.b false) rfl))
    ·replace hM:=ifF hM hb6
     refine Cf hb6 ?_
     refine zaF ?_
     refine zae ?_
     refine Ws ?_
     refine Rg 3 ?_
     refine Om (.i v2) ?_
     refine Oi (.i (w64 (v2+1))) ?_
     refine Oa (.i (w64 (v2+1))) ?_
     refine Ni ?_
     exact zbg (w64 (v2+1)) (Nat.lt_succ_self _) (.k (.k (.k .nil))) ⟨(hS.keep [] rfl).up (by omega),hM⟩
   ·replace hM:=ifF hM hb3
    refine Cf hb3 ?_
    refine zbS ?_
    refine zaq ?_
    refine zam ?_
    refine zaA ?_
    exact zah () .nil ⟨(hS.keep [] rfl).up (by omega),hM⟩
end Go.Proofs.Ytclaalcoefcljaa
