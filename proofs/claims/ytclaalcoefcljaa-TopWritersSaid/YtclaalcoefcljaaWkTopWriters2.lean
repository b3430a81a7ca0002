/-
  The code returns what the functions say (printed by gen.py).
  Conditions: none.
-/
import Derived.Test.YtclaalcoefcljaaWkTopWriters1
import Derived.Test.YtclaalcoefcljaaAmPc
set_option linter.all false
namespace Go.Proofs.Ytclaalcoefcljaa
open Go Go.AM Go.Law
set_option linter.unusedVariables false
set_option maxRecDepth 4000
set_option maxHeartbeats 4000000
theorem zkc {n:Nat} {a0:Tray} {r:Int} (hM:zgk n a0=some r):zaS Try.prog 40 [.agg (Tray.cells a0)] (.i r):=by
 refine zaF mixed Try.func40 rfl (by decide) Try.ntmps40 (by simp) ?pure fun H0 g hf=>?_
 case pure=>exact .v _
 rw [zaA]
 change wpA _ _ _ _ (Fr.of [(0,.agg (Tray.cells a0))]) H0 g
 have hS:=St.start hf
 refine Sq ?_
 refine Rg 2 ?_
 refine zeZ (v:=.agg (Tray.cells a0)) (cs:=(Tray.cells a0)) hS (by decide) rfl rfl (by omega) fun H hS=>?_
 refine Oa (.i 0) ?_
 refine Ni ?_
 refine zcW (L':=[]) 0 1 hS rfl rfl rfl fun H hS=>?_
 refine Ws ?_
 refine zaY (J:=Bool) (fun j=>[(1,.ep (Tray.cells a0)),(3,.b j)]) (fun j H' g'=>St (·<g) H0 [] H' g'/\zbp n a0 j=some r) ?_ ?_
 ·rintro v1 H g1 ⟨hS,hM⟩
  change wpA _ _ _ _ (Fr.of [(1,.ep (Tray.cells a0)),(3,.b v1)]) _ _
  replace hS:St (·<g) H0 [] H g1:=hS
  replace hM:zbp n a0 v1=some r:=hM
  refine zaY (J:=Bool) (fun j=>[(1,.ep (Tray.cells a0)),(3,.b j)]) (fun j H' g'=>St (·<g) H0 [] H' g'/\zfD n a0 j=some r) ?_ ?_
  ·rintro v2 H g2 ⟨hS,hM⟩
   change wpA _ _ _ _ (Fr.of [(1,.ep (Tray.cells a0)),(3,.b v2)]) _ _
   replace hS:St (·<g) H0 [] H g2:=hS
   replace hM:zfD n a0 v2=some r:=hM
   refine zaY (J:=Bool) (fun j=>[(3,.b j)]) (fun j H' g'=>St (·<g) H0 [] H' g'/\zeQ j=some r) ?_ ?_
   ·rintro v3 H g3 ⟨hS,hM⟩
    change wpA _ _ _ _ (Fr.of [(3,.b v3)]) _ _
    replace hS:St (·<g) H0 [] H g3:=hS
    replace hM:zeQ v3=some r:=hM
    refine Sq ?_
    refine Sq ?_
    refine Rg 2 ?_
    refine Om (.b v3) ?_
    refine zgK (e:=v3) (by decide) rfl ?_
    refine Ni ?_
    refine Ws ?_
    rcases bft (!v3) with hb4 | hb4
    ·replace hM:=ifT hM hb4
     refine Ct hb4 ?_
     refine Sq ?_
     refine Rg 1 ?_
     refine Oa (.i 20) ?_
     refine Ni ?_
     refine Ws ?_
     refine zbB ?_
     refine zay ?_
     refine zbL (x:=.i 20) (f:=fun r=>.i r) (.inr rfl) ?_ (.refl _) (Option.some.inj hM) hS
     exact (zaJ (zau (x:=.i 20) rfl))
    ·replace hM:=ifF hM hb4
     refine Cf hb4 ?_
     refine zaI ?_
     refine Ws ?_
     refine Sq ?_
     refine Rg 1 ?_
     refine Oa (.i 0) ?_
     refine Ni ?_
     refine Ws ?_
     refine zbB ?_
     refine zbL (x:=.i 0) (f:=fun r=>.i r) (.inr rfl) ?_ (.refl _) (Option.some.inj hM) hS
     exact (zaJ (zau (x:=.i 0) rfl))
   ·refine Sq ?_
    refine Rg 4 ?_
    refine Of ((Tray.cells a0)) zdu ?_
    refine Olp (.sl .no 2 (a0.Presses.map TrayPress.cells)) zcJ zdq ?_
    refine zcI (n:=a0.Presses.length) (by decide) rfl (List.length_map _) zee ?_
    refine Om (.i 0) ?_
    refine Ni ?_
    refine Ws ?_
    refine zaB ?_
    refine zcx (V:=Bool×Int) (fun v=>[(1,.ep (Tray.cells a0)),(3,.b v.1),(87,.sl .no 2 (a0.Presses.map TrayPress.cells)),(88,.i (a0.Presses.length:Int)),(89,.i v.2)]) (fun v m4 H' g'=>St (·<g) H0 [] H' g'/\zct a0 m4 v.1 v.2=some r) (n:=n) (v2,0) (.k (.k (.k (.k (.k .nil))))) ⟨(hS.keep [] rfl).up (by omega),hM⟩ ?_
    rintro ⟨v5,v6⟩ m4 H g4 ⟨hS,hM⟩
    obtain _ | m4:=m4
    ·exact nomatch (show none=some _ from hM)
    change wpA _ _ _ _ (Fr.of [(1,.ep (Tray.cells a0)),(3,.b v5),(87,.sl .no 2 (a0.Presses.map TrayPress.cells)),(88,.i (a0.Presses.length:Int)),(89,.i v6)]) _ _
    replace hS:St (·<g) H0 [] H g4:=hS
    replace hM:zeq a0 (zct a0 m4) v5 v6=some r:=hM
    refine Sq ?_
    refine Rg 1 ?_
    refine Oi (.b (decide (v6<(a0.Presses.length:Int)))) ?_
    refine Ni ?_
    refine Ws ?_
    refine Sq ?_
    rcases bft (decide (v6<(a0.Presses.length:Int))) with hb7 | hb7
    ·replace hM:=ifT hM hb7
     refine Ct hb7 ?_
     refine zaI ?_
     refine Ws ?_
     refine zaY (J:=Bool) (fun j=>[(1,.ep (Tray.cells a0)),(3,.b j),(87,.sl .no 2 (a0.Presses.map TrayPress.cells)),(88,.i (a0.Presses.length:Int)),(89,.i v6)]) (fun j H' g'=>St (·<g) H0 [] H' g'/\zdU (zct a0 m4) v6 j=some r) ?_ ?_
     ·rintro v8 H g5 ⟨hS,hM⟩
      change wpA _ _ _ _ (Fr.of [(1,.ep (Tray.cells a0)),(3,.b v8),(87,.sl .no 2 (a0.Presses.map TrayPress.cells)),(88,.i (a0.Presses.length:Int)),(89,.i v6)]) _ _
      replace hS:St (·<g) H0 [] H g5:=hS
      replace hM:zdU (zct a0 m4) v6 v8=some r:=hM
      refine Rg 2 ?_
      refine Oi (.i (w64 (v6+1))) ?_
      refine Om (.i (w64 (v6+1))) ?_
      refine Ni ?_
      exact zbY (v8,w64 (v6+1)) (Nat.lt_succ_self _) (.k (.k (.k (.k (.k .nil))))) ⟨(hS.keep [] rfl).up (by omega),hM⟩
     ·refine zaB ?_
      refine Sq ?_
      refine Rg 4 ?_
      obtain ⟨x9,hx9,hM⟩:=zap hM
      refine zbr (xs:=a0.Presses) (f:=TrayPress.cells) (z:=v6) (u:=x9) (by decide) rfl rfl zdP hx9 ?_
      refine Olg (.agg [.i x9.Side,.i x9.Time]) zhd ?_
      refine zem hS (by decide) znj (by omega) fun H hS=>?_
      refine zbC (v:=.agg [.i x9.Side,.i x9.Time]) (ns:=[.i x9.Side,.i x9.Time]) (L':=[(g4+1+2,.cells [.i x9.Side,.i x9.Time])]) 0 hS rfl rfl .no rfl rfl zjz nlb rfl fun H hS=>?_
      refine Ni ?_
      refine zcW (L':=[]) 0 7 hS rfl rfl rfl fun H hS=>?_
      refine Ws ?_
      refine Rg 13 ?_
      refine Om (.b v5) ?_
      refine Om (.b v5) ?_
      rcases bft v5 with hb10 | hb10
      ·replace hM:=ifT hM hb10
       refine Oy (want:=true) hb10 ?_
       refine Olg (.agg (Tray.cells a0)) zdr ?_
       refine Oy (want:=true) hb10 ?_
       refine Of ([.i x9.Side,.i x9.Time]) zix ?_
       refine Oy (want:=true) hb10 ?_
       refine Olp (.i x9.Side) zai zas ?_
       refine Oy (want:=true) hb10 ?_
       obtain ⟨r11,hr11,hM⟩:=zap hM
       refine zbo (bs:=[.agg (Tray.cells a0),.i x9.Side]) (by decide) rfl rfl ((zjC hr11).le (.k (.k .nil))) ?_
       refine Pt (.b r11) hb10 ?_
       refine Om (.b r11) ?_
       rcases bft r11 with hb12 | hb12
       ·replace hM:=ifT hM hb12
        refine Oy (want:=true) hb12 ?_
        refine Of ([.i x9.Side,.i x9.Time]) zfq ?_
        refine Oy (want:=true) hb12 ?_
        refine Olp (.i x9.Time) zai zas ?_
        refine Oy (want:=true) hb12 ?_
        obtain ⟨r13,hr13,hM⟩:=zap hM
        refine zbo (bs:=[.i x9.Time]) (by decide) rfl rfl ((zjD hr13).le (.k .nil)) ?_
        refine Pt (.b r13) hb12 ?_
        refine Oa (.b r13) ?_
        refine Ni ?_
        refine zak ?_
        exact zal r13 (.k (.k (.k (.k (.k .nil))))) ⟨(hS.keep [] rfl).up (by omega),hM⟩
       ·replace hM:=ifF hM hb12
        refine On (want:=true) hb12 ?_
        refine On (want:=true) hb12 ?_
        refine On (want:=true) hb12 ?_
        refine Pf (.b false) hb12 ?_
        refine Oa (.b false) ?_
        refine Ni ?_
        refine zak ?_
        exact zal false (.k (.k (.k (.k (.k .nil))))) ⟨(hS.keep [] rfl).up (by omega),hM⟩
      ·replace hM:=ifF hM hb10
       refine On (want:=true) hb10 ?_
       refine On (want:=true) hb10 ?_
       refine On (want:=true) hb10 ?_
       refine On (want:=true) hb10 ?_
       refine Pf (.b false) hb10 ?_
       refine Om (.b false) ?_
       refine Og ?_
       refine Og ?_
       refine Og ?_
       refine zby (v:=.b false) (e:=false) (by decide) rfl rfl rfl ?_
       refine Oa (.b false) ?_
       refine Ni ?_
       refine zak ?_
       exact zal false (.k (.k (.k (.k (.k .nil))))) ⟨(hS.keep [] rfl).up (by omega),hM⟩
    ·replace hM:=ifF hM hb7
     refine Cf hb7 ?_
     refine zcw ?_
     refine zax ?_
     refine zaq ?_
     refine zaG ?_
     exact zal v5 (.k .nil) ⟨(hS.keep [] rfl).up (by omega),hM⟩
  ·refine Sq ?_
   refine Rg 4 ?_
   refine Of ((Tray.cells a0)) zbK ?_
   refine Olp (.sl .no 2 (a0.Records.map TrayRecord.cells)) zcv zc3 ?_
   refine zcI (n:=a0.Records.length) (by decide) rfl (List.length_map _) zc9 ?_
   refine Om (.i 0) ?_
   refine Ni ?_
   refine Ws ?_
   refine zaB ?_
   refine zcx (V:=Bool×Int) (fun v=>[(1,.ep (Tray.cells a0)),(3,.b v.1),(58,.sl .no 2 (a0.Records.map TrayRecord.cells)),(59,.i (a0.Records.length:Int)),(60,.i v.2)]) (fun v m6 H' g'=>St (·<g) H0 [] H' g'/\zcu n a0 m6 v.1 v.2=some r) (n:=n) (v1,0) (.k (.k (.k (.k (.k .nil))))) ⟨(hS.keep [] rfl).up (by omega),hM⟩ ?_
   rintro ⟨v14,v15⟩ m6 H g6 ⟨hS,hM⟩
   obtain _ | m6:=m6
   ·exact nomatch (show none=some _ from hM)
   change wpA _ _ _ _ (Fr.of [(1,.ep (Tray.cells a0)),(3,.b v14),(58,.sl .no 2 (a0.Records.map TrayRecord.cells)),(59,.i (a0.Records.length:Int)),(60,.i v15)]) _ _
   replace hS:St (·<g) H0 [] H g6:=hS
   replace hM:zer n a0 (zcu n a0 m6) v14 v15=some r:=hM
   refine Sq ?_
   refine Rg 1 ?_
   refine Oi (.b (decide (v15<(a0.Records.length:Int)))) ?_
   refine Ni ?_
   refine Ws ?_
   refine Sq ?_
   rcases bft (decide (v15<(a0.Records.length:Int))) with hb16 | hb16
   ·replace hM:=ifT hM hb16
    refine Ct hb16 ?_
    refine zaI ?_
    refine Ws ?_
    refine zaY (J:=Bool) (fun j=>[(1,.ep (Tray.cells a0)),(3,.b j),(58,.sl .no 2 (a0.Records.map TrayRecord.cells)),(59,.i (a0.Records.length:Int)),(60,.i v15)]) (fun j H' g'=>St (·<g) H0 [] H' g'/\zcZ (zcu n a0 m6) v15 j=some r) ?_ ?_
    ·rintro v17 H g7 ⟨hS,hM⟩
     change wpA _ _ _ _ (Fr.of [(1,.ep (Tray.cells a0)),(3,.b v17),(58,.sl .no 2 (a0.Records.map TrayRecord.cells)),(59,.i (a0.Records.length:Int)),(60,.i v15)]) _ _
     replace hS:St (·<g) H0 [] H g7:=hS
     replace hM:zcZ (zcu n a0 m6) v15 v17=some r:=hM
     refine Rg 2 ?_
     refine Oi (.i (w64 (v15+1))) ?_
     refine Om (.i (w64 (v15+1))) ?_
     refine Ni ?_
     exact zbY (v17,w64 (v15+1)) (Nat.lt_succ_self _) (.k (.k (.k (.k (.k .nil))))) ⟨(hS.keep [] rfl).up (by omega),hM⟩
    ·refine zaB ?_
     refine Sq ?_
     refine Rg 4 ?_
     obtain ⟨x18,hx18,hM⟩:=zap hM
     refine zbr (xs:=a0.Records) (f:=TrayRecord.cells) (z:=v15) (u:=x18) (by decide) rfl rfl zgQ hx18 ?_
     refine Olg (.agg (TrayRecord.cells x18)) zof ?_
     refine zem hS (by decide) zno (by omega) fun H hS=>?_
     refine zbC (v:=.agg (TrayRecord.cells x18)) (ns:=(TrayRecord.cells x18)) (L':=[(g6+1+2,.cells (TrayRecord.cells x18))]) 0 hS rfl rfl .no rfl rfl zog nlb rfl fun H hS=>?_
     refine Ni ?_
     refine zcW (L':=[]) 0 5 hS rfl rfl rfl fun H hS=>?_
     refine Ws ?_
     refine Rg 22 ?_
     refine Om (.b v14) ?_
     refine Om (.b v14) ?_
     rcases bft v14 with hb19 | hb19
     ·replace hM:=ifT hM hb19
      refine Oy (want:=true) hb19 ?_
      refine Of ((TrayRecord.cells x18)) zhh ?_
      refine Oy (want:=true) hb19 ?_
      refine Olp (.i x18.Front) zai zas ?_
      refine Oy (want:=true) hb19 ?_
      refine Oi (.b (decide (x18.Front≥1))) ?_
      refine Pt (.b (decide (x18.Front≥1))) hb19 ?_
      refine Om (.b (decide (x18.Front≥1))) ?_
      rcases bft (decide (x18.Front≥1)) with hb20 | hb20
      ·replace hM:=ifT hM hb20
       refine Oy (want:=true) hb20 ?_
       refine Of ((TrayRecord.cells x18)) zhh ?_
       refine Oy (want:=true) hb20 ?_
       refine Olp (.i x18.Front) zai zas ?_
       refine Oy (want:=true) hb20 ?_
       refine Oi (.b (decide (x18.Front<=999))) ?_
       refine Pt (.b (decide (x18.Front<=999))) hb20 ?_
       refine Om (.b (decide (x18.Front<=999))) ?_
       rcases bft (decide (x18.Front<=999)) with hb21 | hb21
       ·replace hM:=ifT hM hb21
        refine Oy (want:=true) hb21 ?_
        refine Of ((TrayRecord.cells x18)) zhi ?_
        refine Oy (want:=true) hb21 ?_
        refine Olp (.i x18.Back) zai zas ?_
        refine Oy (want:=true) hb21 ?_
        refine Oi (.b (decide (x18.Back≥1))) ?_
        refine Pt (.b (decide (x18.Back≥1))) hb21 ?_
        refine Om (.b (decide (x18.Back≥1))) ?_
        rcases bft (decide (x18.Back≥1)) with hb22 | hb22
        ·replace hM:=ifT hM hb22
         refine Oy (want:=true) hb22 ?_
         refine Of ((TrayRecord.cells x18)) zhi ?_
         refine Oy (want:=true) hb22 ?_
         refine Olp (.i x18.Back) zai zas ?_
         refine Oy (want:=true) hb22 ?_
         refine Oi (.b (decide (x18.Back<=999))) ?_
         refine Pt (.b (decide (x18.Back<=999))) hb22 ?_
         refine Oa (.b (decide (x18.Back<=999))) ?_
         refine Ni ?_
         refine zak ?_
         exact zal (decide (x18.Back<=999)) (.k (.k (.k (.k (.k .nil))))) ⟨(hS.keep [] rfl).up (by omega),hM⟩
        ·replace hM:=ifF hM hb22
         refine On (want:=true) hb22 ?_
         refine On (want:=true) hb22 ?_
         refine On (want:=true) hb22 ?_
         refine Pf (.b false) hb22 ?_
         refine Oa (.b false) ?_
         refine Ni ?_
         refine zak ?_
         exact zal false (.k (.k (.k (.k (.k .nil))))) ⟨(hS.keep [] rfl).up (by omega),hM⟩
       ·replace hM:=ifF hM hb21
        refine On (want:=true) hb21 ?_
        refine On (want:=true) hb21 ?_
        refine On (want:=true) hb21 ?_
        refine Pf (.b false) hb21 ?_
        refine Om (.b false) ?_
        refine Og ?_
        refine Og ?_
        refine Og ?_
        refine zby (v:=.b false) (e:=false) (by decide) rfl rfl rfl ?_
        refine Oa (.b false) ?_
        refine Ni ?_
        refine zak ?_
        exact zal false (.k (.k (.k (.k (.k .nil))))) ⟨(hS.keep [] rfl).up (by omega),hM⟩
      ·replace hM:=ifF hM hb20
       refine On (want:=true) hb20 ?_
       refine On (want:=true) hb20 ?_
       refine On (want:=true) hb20 ?_
       refine Pf (.b false) hb20 ?_
       refine Om (.b false) ?_
       refine Og ?_
       refine Og ?_
       refine Og ?_
       refine zby (v:=.b false) (e:=false) (by decide) rfl rfl rfl ?_
       refine Om (.b false) ?_
       refine Og ?_
       refine Og ?_
       refine Og ?_
       refine zby (v:=.b false) (e:=false) (by decide) rfl rfl rfl ?_
       refine Oa (.b false) ?_
       refine Ni ?_
       refine zak ?_
       exact zal false (.k (.k (.k (.k (.k .nil))))) ⟨(hS.keep [] rfl).up (by omega),hM⟩
     ·replace hM:=ifF hM hb19
      refine On (want:=true) hb19 ?_
      refine On (want:=true) hb19 ?_
      refine On (want:=true) hb19 ?_
      refine Pf (.b false) hb19 ?_
      refine Om (.b false) ?_
      refine Og ?_
      refine Og ?_
      refine Og ?_
      refine zby (v:=.b false) (e:=false) (by decide) rfl rfl rfl ?_
      refine Om (.b false) ?_
      refine Og ?_
      refine Og ?_
      refine Og ?_
      refine zby (v:=.b false) (e:=false) (by decide) rfl rfl rfl ?_
      refine Om (.b false) ?_
      refine Og ?_
      refine Og ?_
      refine Og ?_
      refine zby (v:=.b false) (e:=false) (by decide) rfl rfl rfl ?_
      refine Oa (.b false) ?_
      refine Ni ?_
      refine zak ?_
      exact zal false (.k (.k (.k (.k (.k .nil))))) ⟨(hS.keep [] rfl).up (by omega),hM⟩
   ·replace hM:=ifF hM hb16
    refine Cf hb16 ?_
    refine zcw ?_
    refine zax ?_
    refine zaq ?_
    refine zaG ?_
    exact zal v14 (.k (.k .nil)) ⟨(hS.keep [] rfl).up (by omega),hM⟩
 ·refine Rg 50 ?_
  refine Of ((Tray.cells a0)) zbK ?_
  refine Olp (.sl .no 2 (a0.Records.map TrayRecord.cells)) zcv zc3 ?_
  refine zcI (n:=a0.Records.length) (by decide) rfl (List.length_map _) zc9 ?_
  refine Oi (.b (decide ((a0.Records.length:Int)≥1))) ?_
  refine Om (.b (decide ((a0.Records.length:Int)≥1))) ?_
  rcases bft (decide ((a0.Records.length:Int)≥1)) with hb23 | hb23
  ·replace hM:=ifT hM hb23
   refine Oy (want:=true) hb23 ?_
   refine Of ((Tray.cells a0)) zbK ?_
   refine Oy (want:=true) hb23 ?_
   refine Olp (.sl .no 2 (a0.Records.map TrayRecord.cells)) zcv zc3 ?_
   refine Oy (want:=true) hb23 ?_
   refine zcI (n:=a0.Records.length) (by decide) rfl (List.length_map _) zc9 ?_
   refine Oy (want:=true) hb23 ?_
   refine Oi (.b (decide ((a0.Records.length:Int)<=6))) ?_
   refine Pt (.b (decide ((a0.Records.length:Int)<=6))) hb23 ?_
   refine Om (.b (decide ((a0.Records.length:Int)<=6))) ?_
   rcases bft (decide ((a0.Records.length:Int)<=6)) with hb24 | hb24
   ·replace hM:=ifT hM hb24
    refine Oy (want:=true) hb24 ?_
    refine Of ((Tray.cells a0)) zf6 ?_
    refine Oy (want:=true) hb24 ?_
    refine Olp (.i a0.At) zai zas ?_
    refine Oy (want:=true) hb24 ?_
    refine Oi (.b (decide (a0.At≥0))) ?_
    refine Pt (.b (decide (a0.At≥0))) hb24 ?_
    refine Om (.b (decide (a0.At≥0))) ?_
    rcases bft (decide (a0.At≥0)) with hb25 | hb25
    ·replace hM:=ifT hM hb25
     refine Oy (want:=true) hb25 ?_
     refine Of ((Tray.cells a0)) zf6 ?_
     refine Oy (want:=true) hb25 ?_
     refine Olp (.i a0.At) zai zas ?_
     refine Oy (want:=true) hb25 ?_
     refine Of ((Tray.cells a0)) zbK ?_
     refine Oy (want:=true) hb25 ?_
     refine Olp (.sl .no 2 (a0.Records.map TrayRecord.cells)) zcv zc3 ?_
     refine Oy (want:=true) hb25 ?_
     refine zcI (n:=a0.Records.length) (by decide) rfl (List.length_map _) zc9 ?_
     refine Oy (want:=true) hb25 ?_
     refine Oi (.b (decide (a0.At<(a0.Records.length:Int)))) ?_
     refine Pt (.b (decide (a0.At<(a0.Records.length:Int)))) hb25 ?_
     refine Om (.b (decide (a0.At<(a0.Records.length:Int)))) ?_
     rcases bft (decide (a0.At<(a0.Records.length:Int))) with hb26 | hb26
     ·replace hM:=ifT hM hb26
      refine Oy (want:=true) hb26 ?_
      refine Of ((Tray.cells a0)) zfp ?_
      refine Oy (want:=true) hb26 ?_
      refine Olp (.i a0.Way) zai zas ?_
      refine Oy (want:=true) hb26 ?_
      refine Oi (.b (a0.Way==1)) ?_
      refine Oy (want:=true) hb26 ?_
      refine Om (.b (a0.Way==1)) ?_
      rcases bft (a0.Way==1) with hb27 | hb27
      ·replace hM:=ifT hM hb27
       refine On (want:=false) hb27 ?_
       refine On (want:=false) hb27 ?_
       refine On (want:=false) hb27 ?_
       refine Oy (want:=true) hb26 ?_
       refine Pt (.b true) hb27 ?_
       refine Pt (.b true) hb26 ?_
       refine Om (.b true) ?_
       refine Oz ?_
       refine Of ((Tray.cells a0)) ze4 ?_
       refine Oz ?_
       refine Olp (.i a0.Step) zai zas ?_
       refine Oz ?_
       refine Oi (.b (decide (a0.Step≥0))) ?_
       refine zcy (v:=.b (decide (a0.Step≥0))) (e:=true) (by decide) rfl rfl rfl ?_
       refine Om (.b (decide (a0.Step≥0))) ?_
       rcases bft (decide (a0.Step≥0)) with hb28 | hb28
       ·replace hM:=ifT hM hb28
        refine Oy (want:=true) hb28 ?_
        refine Of ((Tray.cells a0)) ze4 ?_
        refine Oy (want:=true) hb28 ?_
        refine Olp (.i a0.Step) zai zas ?_
        refine Oy (want:=true) hb28 ?_
        refine Oi (.b (decide (a0.Step<=60))) ?_
        refine Pt (.b (decide (a0.Step<=60))) hb28 ?_
        refine Om (.b (decide (a0.Step<=60))) ?_
        rcases bft (decide (a0.Step<=60)) with hb29 | hb29
        ·replace hM:=ifT hM hb29
         refine Oy (want:=true) hb29 ?_
         refine Of ((Tray.cells a0)) zdu ?_
         refine Oy (want:=true) hb29 ?_
         refine Olp (.sl .no 2 (a0.Presses.map TrayPress.cells)) zcJ zdq ?_
         refine Oy (want:=true) hb29 ?_
         refine zcI (n:=a0.Presses.length) (by decide) rfl (List.length_map _) zee ?_
         refine Oy (want:=true) hb29 ?_
         refine Oi (.b (decide ((a0.Presses.length:Int)<=12))) ?_
         refine Pt (.b (decide ((a0.Presses.length:Int)<=12))) hb29 ?_
         refine Oa (.b (decide ((a0.Presses.length:Int)<=12))) ?_
         refine Ni ?_
         exact zal (decide ((a0.Presses.length:Int)<=12)) (.k (.k .nil)) ⟨(hS.keep [] rfl).up (by omega),hM⟩
        ·replace hM:=ifF hM hb29
         refine On (want:=true) hb29 ?_
         refine On (want:=true) hb29 ?_
         refine On (want:=true) hb29 ?_
         refine On (want:=true) hb29 ?_
         refine Pf (.b false) hb29 ?_
         refine Oa (.b false) ?_
         refine Ni ?_
         exact zal false (.k (.k .nil)) ⟨(hS.keep [] rfl).up (by omega),hM⟩
       ·replace hM:=ifF hM hb28
        refine On (want:=true) hb28 ?_
        refine On (want:=true) hb28 ?_
        refine On (want:=true) hb28 ?_
        refine Pf (.b false) hb28 ?_
        refine Om (.b false) ?_
        refine Og ?_
        refine Og ?_
        refine Og ?_
        refine Og ?_
        refine zby (v:=.b false) (e:=false) (by decide) rfl rfl rfl ?_
        refine Oa (.b false) ?_
        refine Ni ?_
        exact zal false (.k (.k .nil)) ⟨(hS.keep [] rfl).up (by omega),hM⟩
      ·replace hM:=ifF hM hb27
       refine Oy (want:=false) hb27 ?_
       refine Of ((Tray.cells a0)) zfp ?_
       refine Oy (want:=false) hb27 ?_
       refine Olp (.i a0.Way) zai zas ?_
       refine Oy (want:=false) hb27 ?_
       refine Oi (.b (a0.Way==(-1))) ?_
       refine Oy (want:=true) hb26 ?_
       refine Pf (.b (a0.Way==(-1))) hb27 ?_
       refine Pt (.b (a0.Way==(-1))) hb26 ?_
       refine Om (.b (a0.Way==(-1))) ?_
       rcases bft (a0.Way==(-1)) with hb30 | hb30
       ·replace hM:=ifT hM hb30
        refine Oy (want:=true) hb30 ?_
        refine Of ((Tray.cells a0)) ze4 ?_
        refine Oy (want:=true) hb30 ?_
        refine Olp (.i a0.Step) zai zas ?_
        refine Oy (want:=true) hb30 ?_
        refine Oi (.b (decide (a0.Step≥0))) ?_
        refine Pt (.b (decide (a0.Step≥0))) hb30 ?_
        refine Om (.b (decide (a0.Step≥0))) ?_
        rcases bft (decide (a0.Step≥0)) with hb31 | hb31
        ·replace hM:=ifT hM hb31
         refine Oy (want:=true) hb31 ?_
         refine Of ((Tray.cells a0)) ze4 ?_
         refine Oy (want:=true) hb31 ?_
         refine Olp (.i a0.Step) zai zas ?_
         refine Oy (want:=true) hb31 ?_
         refine Oi (.b (decide (a0.Step<=60))) ?_
         refine Pt (.b (decide (a0.Step<=60))) hb31 ?_
         refine Om (.b (decide (a0.Step<=60))) ?_
         rcases bft (decide (a0.Step<=60)) with hb32 | hb32
         ·replace hM:=ifT hM hb32
          refine Oy (want:=true) hb32 ?_
          refine Of ((Tray.cells a0)) zdu ?_
          refine Oy (want:=true) hb32 ?_
          refine Olp (.sl .no 2 (a0.Presses.map TrayPress.cells)) zcJ zdq ?_
          refine Oy (want:=true) hb32 ?_
          refine zcI (n:=a0.Presses.length) (by decide) rfl (List.length_map _) zee ?_
          refine Oy (want:=true) hb32 ?_
          refine Oi (.b (decide ((a0.Presses.length:Int)<=12))) ?_
          refine Pt (.b (decide ((a0.Presses.length:Int)<=12))) hb32 ?_
          refine Oa (.b (decide ((a0.Presses.length:Int)<=12))) ?_
          refine Ni ?_
          exact zal (decide ((a0.Presses.length:Int)<=12)) (.k (.k .nil)) ⟨(hS.keep [] rfl).up (by omega),hM⟩
         ·replace hM:=ifF hM hb32
          refine On (want:=true) hb32 ?_
          refine On (want:=true) hb32 ?_
          refine On (want:=true) hb32 ?_
          refine On (want:=true) hb32 ?_
          refine Pf (.b false) hb32 ?_
          refine Oa (.b false) ?_
          refine Ni ?_
          exact zal false (.k (.k .nil)) ⟨(hS.keep [] rfl).up (by omega),hM⟩
        ·replace hM:=ifF hM hb31
         refine On (want:=true) hb31 ?_
         refine On (want:=true) hb31 ?_
         refine On (want:=true) hb31 ?_
         refine Pf (.b false) hb31 ?_
         refine Om (.b false) ?_
         refine Og ?_
         refine Og ?_
         refine Og ?_
         refine Og ?_
         refine zby (v:=.b false) (e:=false) (by decide) rfl rfl rfl ?_
         refine Oa (.b false) ?_
         refine Ni ?_
         exact zal false (.k (.k .nil)) ⟨(hS.keep [] rfl).up (by omega),hM⟩
       ·replace hM:=ifF hM hb30
        refine On (want:=true) hb30 ?_
        refine On (want:=true) hb30 ?_
        refine On (want:=true) hb30 ?_
        refine Pf (.b false) hb30 ?_
        refine Om (.b false) ?_
        refine Og ?_
        refine Og ?_
        refine Og ?_
        refine zby (v:=.b false) (e:=false) (by decide) rfl rfl rfl ?_
        refine Om (.b false) ?_
        refine Og ?_
        refine Og ?_
        refine Og ?_
        refine Og ?_
        refine zby (v:=.b false) (e:=false) (by decide) rfl rfl rfl ?_
        refine Oa (.b false) ?_
        refine Ni ?_
        exact zal false (.k (.k .nil)) ⟨(hS.keep [] rfl).up (by omega),hM⟩
     ·replace hM:=ifF hM hb26
      refine On (want:=true) hb26 ?_
      refine On (want:=true) hb26 ?_
      refine On (want:=true) hb26 ?_
      refine On (want:=true) hb26 ?_
      refine zb3 (j:=27) (by decide) rfl ?_
      refine zb3 (j:=27) (by decide) rfl ?_
      refine zb3 (j:=27) (by decide) rfl ?_
      refine On (want:=true) hb26 ?_
      refine Pf (.b false) hb26 ?_
      refine Om (.b false) ?_
      refine Og ?_
      refine Og ?_
      refine Og ?_
      refine zby (v:=.b false) (e:=false) (by decide) rfl rfl rfl ?_
      refine Om (.b false) ?_
      refine Og ?_
      refine Og ?_
      refine Og ?_
      refine zby (v:=.b false) (e:=false) (by decide) rfl rfl rfl ?_
      refine Om (.b false) ?_
      refine Og ?_
      refine Og ?_
      refine Og ?_
      refine Og ?_
      refine zby (v:=.b false) (e:=false) (by decide) rfl rfl rfl ?_
      refine Oa (.b false) ?_
      refine Ni ?_
      exact zal false (.k (.k .nil)) ⟨(hS.keep [] rfl).up (by omega),hM⟩
    ·replace hM:=ifF hM hb25
     refine On (want:=true) hb25 ?_
     refine On (want:=true) hb25 ?_
     refine On (want:=true) hb25 ?_
     refine On (want:=true) hb25 ?_
     refine On (want:=true) hb25 ?_
     refine On (want:=true) hb25 ?_
     refine Pf (.b false) hb25 ?_
     refine Om (.b false) ?_
     refine Og ?_
     refine Og ?_
     refine Og ?_
     refine Og ?_
     refine zb3 (j:=27) (by decide) rfl ?_
     refine zb3 (j:=27) (by decide) rfl ?_
     refine zb3 (j:=27) (by decide) rfl ?_
     refine Og ?_
     refine zby (v:=.b false) (e:=false) (by decide) rfl rfl rfl ?_
     refine Om (.b false) ?_
     refine Og ?_
     refine Og ?_
     refine Og ?_
     refine zby (v:=.b false) (e:=false) (by decide) rfl rfl rfl ?_
     refine Om (.b false) ?_
     refine Og ?_
     refine Og ?_
     refine Og ?_
     refine zby (v:=.b false) (e:=false) (by decide) rfl rfl rfl ?_
     refine Om (.b false) ?_
     refine Og ?_
     refine Og ?_
     refine Og ?_
     refine Og ?_
     refine zby (v:=.b false) (e:=false) (by decide) rfl rfl rfl ?_
     refine Oa (.b false) ?_
     refine Ni ?_
     exact zal false (.k (.k .nil)) ⟨(hS.keep [] rfl).up (by omega),hM⟩
   ·replace hM:=ifF hM hb24
    refine On (want:=true) hb24 ?_
    refine On (want:=true) hb24 ?_
    refine On (want:=true) hb24 ?_
    refine Pf (.b false) hb24 ?_
    refine Om (.b false) ?_
    refine Og ?_
    refine Og ?_
    refine Og ?_
    refine Og ?_
    refine Og ?_
    refine Og ?_
    refine zby (v:=.b false) (e:=false) (by decide) rfl rfl rfl ?_
    refine Om (.b false) ?_
    refine Og ?_
    refine Og ?_
    refine Og ?_
    refine Og ?_
    refine zb3 (j:=27) (by decide) rfl ?_
    refine zb3 (j:=27) (by decide) rfl ?_
    refine zb3 (j:=27) (by decide) rfl ?_
    refine Og ?_
    refine zby (v:=.b false) (e:=false) (by decide) rfl rfl rfl ?_
    refine Om (.b false) ?_
    refine Og ?_
    refine Og ?_
    refine Og ?_
    refine zby (v:=.b false) (e:=false) (by decide) rfl rfl rfl ?_
    refine Om (.b false) ?_
    refine Og ?_
    refine Og ?_
    refine Og ?_
    refine zby (v:=.b false) (e:=false) (by decide) rfl rfl rfl ?_
    refine Om (.b false) ?_
    refine Og ?_
    refine Og ?_
    refine Og ?_
    refine Og ?_
    refine zby (v:=.b false) (e:=false) (by decide) rfl rfl rfl ?_
    refine Oa (.b false) ?_
    refine Ni ?_
    exact zal false (.k (.k .nil)) ⟨(hS.keep [] rfl).up (by omega),hM⟩
  ·replace hM:=ifF hM hb23
   refine On (want:=true) hb23 ?_
   refine On (want:=true) hb23 ?_
   refine On (want:=true) hb23 ?_
   refine On (want:=true) hb23 ?_
   refine Pf (.b false) hb23 ?_
   refine Om (.b false) ?_
   refine Og ?_
   refine Og ?_
   refine Og ?_
   refine zby (v:=.b false) (e:=false) (by decide) rfl rfl rfl ?_
   refine Om (.b false) ?_
   refine Og ?_
   refine Og ?_
   refine Og ?_
   refine Og ?_
   refine Og ?_
   refine Og ?_
   refine zby (v:=.b false) (e:=false) (by decide) rfl rfl rfl ?_
   refine Om (.b false) ?_
   refine Og ?_
   refine Og ?_
   refine Og ?_
   refine Og ?_
   refine zb3 (j:=27) (by decide) rfl ?_
   refine zb3 (j:=27) (by decide) rfl ?_
   refine zb3 (j:=27) (by decide) rfl ?_
   refine Og ?_
   refine zby (v:=.b false) (e:=false) (by decide) rfl rfl rfl ?_
   refine Om (.b false) ?_
   refine Og ?_
   refine Og ?_
   refine Og ?_
   refine zby (v:=.b false) (e:=false) (by decide) rfl rfl rfl ?_
   refine Om (.b false) ?_
   refine Og ?_
   refine Og ?_
   refine Og ?_
   refine zby (v:=.b false) (e:=false) (by decide) rfl rfl rfl ?_
   refine Om (.b false) ?_
   refine Og ?_
   refine Og ?_
   refine Og ?_
   refine Og ?_
   refine zby (v:=.b false) (e:=false) (by decide) rfl rfl rfl ?_
   refine Oa (.b false) ?_
   refine Ni ?_
   exact zal false (.k (.k .nil)) ⟨(hS.keep [] rfl).up (by omega),hM⟩
theorem zdQ {a0:List TrayPress} {r:List TrayPress} (hM:zbS a0=some r):zfu Try.prog 66 [.sl .no 2 (a0.map TrayPress.cells)] 55 2 (r.map TrayPress.cells):=by
 have hr:r=a0:=by
  unfold zbS app at hM
  split at hM
  ·injection hM with hM;rw [←hM];rfl
  ·cases hM
 refine zkF mixed Try.func66 rfl (by decide) Try.ntmps66 (by simp) ?pure fun H0 g hf=>?_
 case pure=>exact zaK (fun x=>(zaf (.v _) (zaf (.v _) zaN)))
 rw [zaA]
 change wpA _ _ _ _ (Fr.of [(0,.sl .no 2 (a0.map TrayPress.cells))]) H0 g
 have hS:=St.start hf
 refine Sq ?_
 refine Rg 1 ?_
 refine Oa (.sl .nil 0 []) ?_
 refine Ni ?_
 refine Ws ?_
 refine Sq ?_
 refine Sq ?_
 refine Rg 2 ?_
 refine Om (.sl .no 2 (a0.map TrayPress.cells)) ?_
 refine zth (t:=23) (tg:=.no) (k:=2) (es:=a0.map TrayPress.cells) (e:=true) (by decide) rfl rfl rfl rfl zee (fun _=>?_) (fun hnil=>?_)
 ·refine Ni ?_
  refine Ws ?_
  refine zkE (e:=false==true) rfl rfl ?_
  refine zaI ?_
  refine Ws ?_
  refine Sq ?_
  refine Rg 4 ?_
  refine zcz (es:=[]) hS (by decide) zdP zjv rfl zjw rfl (by decide) (by omega) fun H hS=>?_
  refine Om (.sl .no 2 (a0.map TrayPress.cells)) ?_
  refine zg0 (xs:=([]:List TrayPress)) (ys:=a0) (zs:=r) (f:=TrayPress.cells) (L':=[(g+1+2+0,.row 55 r.length)]) 0 hS (by decide) rfl rfl rfl rfl .no zdP zjv zjw hM rfl fun H hS=>?_
  refine Oa (.sl (.id (g+1+2+0)) 2 (r.map TrayPress.cells)) ?_
  refine Ni ?_
  refine Ws ?_
  refine zbB ?_
  refine zqd (j:=g+1+2+0) 0 (.inr rfl) ?_ hS rfl (List.length_map _).symm
  exact zaJ (zau rfl)
 ·refine Ni ?_
  refine Ws ?_
  refine zmR (e:=true==true) rfl rfl ?_
  refine Sq ?_
  refine Rg 1 ?_
  refine Oa (.sl .nil 0 []) ?_
  refine Ni ?_
  refine Ws ?_
  refine zbB ?_
  refine zay ?_
  refine zqe (k':=0) (.inr rfl) ?_ hS (by decide) (by rw [hr];exact hnil)
  exact zaJ (zau rfl)
theorem zci {S:Type} {Lo:S->BL} (hk:∀s s',zhG (Lo s) (Lo s')) {p1:Nat} (hnd:∀s,([p1]++ids (Lo s)).Nodup) (hin:∀s,InB In (Lo s)) {aF:TrayPress->TrayPress->S->Option (Int×S)} {f0:AV} (hF:∀s H,Has H (Lo s)->In H f0) (h0:cellsOf f0=some [f0]) (hf:∀{x0:TrayPress} {x1:TrayPress} {s:S} {r:Int×S},aF x0 x1 s=some r->zmi Try.prog f0 [.agg [.i x0.Side,.i x0.Time],.agg [.i x1.Side,.i x1.Time]] (Lo s) (.i r.1) (Lo r.2)) {n:Nat} {a1:Int} {a2:Int} {mz0:Nat} {st:(List TrayPress)×S} {r:Unit×((List TrayPress)×S)} (hM:zaZ n aF a1 a2 mz0 st=some r):ziI Try.prog 108 [.ms p1 0 2 mz0 mz0,.i a1,.i a2,f0] ([(p1,.cells (st.1.map TrayPress.cells).flatten)]++Lo st.2) (.tup []) ([(p1,.cells (r.2.1.map TrayPress.cells).flatten)]++Lo r.2.2):=by
 have hnd0:∀s,(ids (Lo s)).Nodup:=fun s=>(List.nodup_append.1 (hnd s)).2.1
 refine zdv mixed Try.func108 rfl (by decide) Try.ntmps108 (by simp) (zhw (zdA zfG) (hk _ _)) (hnd st.2) ?pure ?cells fun H0 g hf_ hp=>?_
 case pure=>exact fun H _=>(show Go.AM.Pure _ from .tup _ zaN).inH
 case cells=>exact (zgz (zdz (zfk (fun x=>(zaf (.v _) (zaf (.v _) zaN)))) zgy) (hin _))
 rw [zaA]
 change wpA _ _ _ _ (Fr.of [(0,.ms p1 0 2 mz0 mz0),(1,.i a1),(2,.i a2),(3,f0)]) H0 g
 have hS:=St.startH (L:=([(p1,.cells (st.1.map TrayPress.cells).flatten)]++Lo st.2)) hf_ (ziZ (hnd st.2)) hp
 replace hS:St (fun i=>i<g/\i∉ids ([(p1,.cells (st.1.map TrayPress.cells).flatten)]++Lo st.2)) H0 ([(p1,.cells (st.1.map TrayPress.cells).flatten)]++Lo st.2) H0 g:=hS
 refine Sq ?_
 refine Rg 3 ?_
 refine Om (.i a1) ?_
 refine Oi (.i (w64 (a1+1))) ?_
 refine Oa (.i (w64 (a1+1))) ?_
 refine Ni ?_
 refine Ws ?_
 refine zaB ?_
 refine zcx (V:=Int×(List TrayPress)×S) (fun v=>[(0,.ms p1 0 2 mz0 mz0),(1,.i a1),(2,.i a2),(3,f0),(8,.i v.1)]) (fun v m2 H' g'=>St (fun i=>i<g/\i∉ids ([(p1,.cells (st.1.map TrayPress.cells).flatten)]++Lo st.2)) H0 ([(p1,.cells (v.2.1.map TrayPress.cells).flatten)]++Lo v.2.2) H' g'/\zab n a1 a2 aF mz0 m2 v.1 v.2.1 v.2.2=some r) (n:=n) (w64 (a1+1),st.1,st.2) (.k (.k (.k (.k (.k .nil))))) ⟨(hS.keep [true] rfl).up (by omega),hM⟩ ?_
 rintro ⟨v2,v3,v4⟩ m2 H g2 ⟨hS,hM⟩
 obtain _ | m2:=m2
 ·exact nomatch (show none=some _ from hM)
 change wpA _ _ _ _ (Fr.of [(0,.ms p1 0 2 mz0 mz0),(1,.i a1),(2,.i a2),(3,f0),(8,.i v2)]) _ _
 replace hS:St (fun i=>i<g/\i∉ids ([(p1,.cells (st.1.map TrayPress.cells).flatten)]++Lo st.2)) H0 ([(p1,.cells (v3.map TrayPress.cells).flatten)]++Lo v4) H g2:=hS
 replace hM:zaP n a1 a2 aF mz0 (zab n a1 a2 aF mz0 m2) v2 v3 v4=some r:=hM
 refine Sq ?_
 refine Sq ?_
 refine Rg 3 ?_
 refine Om (.i v2) ?_
 refine Om (.i a2) ?_
 refine Oi (.b (decide (v2<a2))) ?_
 refine Ni ?_
 refine Ws ?_
 rcases bft (decide (v2<a2)) with hb5 | hb5
 ·replace hM:=ifT hM hb5
  refine Ct hb5 ?_
  refine zaI ?_
  refine Ws ?_
  refine zaY (J:=(List TrayPress)×S) (fun j=>[(0,.ms p1 0 2 mz0 mz0),(1,.i a1),(2,.i a2),(3,f0),(8,.i v2)]) (fun j H' g'=>St (fun i=>i<g/\i∉ids ([(p1,.cells (st.1.map TrayPress.cells).flatten)]++Lo st.2)) H0 ([(p1,.cells (j.1.map TrayPress.cells).flatten)]++Lo j.2) H' g'/\zaT (zab n a1 a2 aF mz0 m2) v2 j.1 j.2=some r) ?_ ?_
  ·rintro ⟨v6,v7⟩ H g3 ⟨hS,hM⟩
   change wpA _ _ _ _ (Fr.of [(0,.ms p1 0 2 mz0 mz0),(1,.i a1),(2,.i a2),(3,f0),(8,.i v2)]) _ _
   replace hS:St (fun i=>i<g/\i∉ids ([(p1,.cells (st.1.map TrayPress.cells).flatten)]++Lo st.2)) H0 ([(p1,.cells (v6.map TrayPress.cells).flatten)]++Lo v7) H g3:=hS
   replace hM:zaT (zab n a1 a2 aF mz0 m2) v2 v6 v7=some r:=hM
   refine Rg 3 ?_
   refine Om (.i v2) ?_
   refine Oi (.i (w64 (v2+1))) ?_
   refine Oa (.i (w64 (v2+1))) ?_
   refine Ni ?_
   exact zbY (w64 (v2+1),v6,v7) (Nat.lt_succ_self _) (.k (.k (.k (.k (.k .nil))))) ⟨(hS.keep [true] rfl).up (by omega),hM⟩
  ·refine zaB ?_
   refine Sq ?_
   refine Rg 2 ?_
   refine Om (.i v2) ?_
   refine Oa (.i v2) ?_
   refine Ni ?_
   refine Ws ?_
   refine zaB ?_
   refine zcx (V:=Int×(List TrayPress)×S) (fun v=>[(0,.ms p1 0 2 mz0 mz0),(1,.i a1),(2,.i a2),(3,f0),(8,.i v2),(9,.i v.1)]) (fun v m5 H' g'=>St (fun i=>i<g/\i∉ids ([(p1,.cells (st.1.map TrayPress.cells).flatten)]++Lo st.2)) H0 ([(p1,.cells (v.2.1.map TrayPress.cells).flatten)]++Lo v.2.2) H' g'/\zaj (zab n a1 a2 aF mz0 m2) a1 aF mz0 v2 m5 v.1 v.2.1 v.2.2=some r) (n:=n) (v2,v3,v4) (.k (.k (.k (.k (.k (.k .nil)))))) ⟨(hS.keep [true] rfl).up (by omega),hM⟩ ?_
   rintro ⟨v9,v10,v11⟩ m5 H g5 ⟨hS,hM⟩
   obtain _ | m5:=m5
   ·exact nomatch (show none=some _ from hM)
   change wpA _ _ _ _ (Fr.of [(0,.ms p1 0 2 mz0 mz0),(1,.i a1),(2,.i a2),(3,f0),(8,.i v2),(9,.i v9)]) _ _
   replace hS:St (fun i=>i<g/\i∉ids ([(p1,.cells (st.1.map TrayPress.cells).flatten)]++Lo st.2)) H0 ([(p1,.cells (v10.map TrayPress.cells).flatten)]++Lo v11) H g5:=hS
   replace hM:zaO (zab n a1 a2 aF mz0 m2) a1 aF mz0 v2 (zaj (zab n a1 a2 aF mz0 m2) a1 aF mz0 v2 m5) v9 v10 v11=some r:=hM
   refine Sq ?_
   refine zaY (J:=Bool×S) (fun j=>[(0,.ms p1 0 2 mz0 mz0),(1,.i a1),(2,.i a2),(3,f0),(8,.i v2),(9,.i v9),(34,.b j.1)]) (fun j H' g'=>St (fun i=>i<g/\i∉ids ([(p1,.cells (st.1.map TrayPress.cells).flatten)]++Lo st.2)) H0 ([(p1,.cells (v10.map TrayPress.cells).flatten)]++Lo j.2) H' g'/\zaC (zab n a1 a2 aF mz0 m2) (zaj (zab n a1 a2 aF mz0 m2) a1 aF mz0 v2 m5) mz0 v2 v9 v10 j.1 j.2=some r) ?_ ?_
   ·rintro ⟨v12,v13⟩ H g6 ⟨hS,hM⟩
    change wpA _ _ _ _ (Fr.of [(0,.ms p1 0 2 mz0 mz0),(1,.i a1),(2,.i a2),(3,f0),(8,.i v2),(9,.i v9),(34,.b v12)]) _ _
    replace hS:St (fun i=>i<g/\i∉ids ([(p1,.cells (st.1.map TrayPress.cells).flatten)]++Lo st.2)) H0 ([(p1,.cells (v10.map TrayPress.cells).flatten)]++Lo v13) H g6:=hS
    replace hM:zaC (zab n a1 a2 aF mz0 m2) (zaj (zab n a1 a2 aF mz0 m2) a1 aF mz0 v2 m5) mz0 v2 v9 v10 v12 v13=some r:=hM
    rcases bft v12 with hb14 | hb14
    ·replace hM:=ifT hM hb14
     refine Ct hb14 ?_
     refine zaI ?_
     refine Ws ?_
     refine Sq ?_
     refine zaB ?_
     have hS0:=hS
     refine zdb (n:=18) rfl (by kernel_rfl) ?_
     refine Om (.ms p1 0 2 mz0 mz0) ?_
     refine Om (.i v9) ?_
     refine Om (.ms p1 0 2 mz0 mz0) ?_
     refine Om (.i v9) ?_
     refine Oi (.i (w64 (v9-1))) ?_
     refine Om (.ms p1 0 2 mz0 mz0) ?_
     refine Om (.i v9) ?_
     refine Oi (.i (w64 (v9-1))) ?_
     obtain ⟨x15,hx15,hM⟩:=zap hM
     refine zbv (xs:=v10) (z:=(w64 (v9-1))) (u:=x15) (by decide) rfl (zbw hx15) rfl zdP (zaz hx15) ?_
     refine zhT (f:=TrayPress.cells) (xs:=v10) (z:=(w64 (v9-1))) (u:=x15) 0 hS (by decide) rfl rfl (zaz hx15) (.st hS0 0 rfl (by omega)) (fun _=>rfl) zhd ?_
     refine Om (.ms p1 0 2 mz0 mz0) ?_
     refine Om (.i v9) ?_
     obtain ⟨x16,hx16,hM⟩:=zap hM
     refine zbv (xs:=v10) (z:=v9) (u:=x16) (by decide) rfl (zbw hx16) rfl zdP (zaz hx16) ?_
     refine zhT (f:=TrayPress.cells) (xs:=v10) (z:=v9) (u:=x16) 0 hS (by decide) rfl rfl (zaz hx16) (.st hS0 0 rfl (by omega)) (fun _=>rfl) zhd ?_
     obtain ⟨x17,hx17,hM⟩:=zap hM
     refine zbv (xs:=v10) (z:=v9) (u:=x17) (by decide) rfl (zbw hx17) rfl zdP (zaz hx17) ?_
     refine zen (f:=TrayPress.cells) (k:=2) (xs:=v10) (z:=v9) (u:=x17) (w:=x15) (v:=.agg [.i x15.Side,.i x15.Time]) (L':=([(p1,.cells ((v10.set (Int.toNat v9) x15).map TrayPress.cells).flatten)]++Lo v13)) 0 hS rfl rfl (zaz hx17) (.st hS0 0 rfl (by omega)) (fun _=>rfl) rfl rfl zjz rfl fun H hS=>?_
     obtain ⟨x18,hx18,hM⟩:=zap hM
     refine zbv (xs:=(v10.set (Int.toNat v9) x15)) (z:=(w64 (v9-1))) (u:=x18) (by decide) rfl (zbw hx18) rfl zdP (zaz hx18) ?_
     refine zen (f:=TrayPress.cells) (k:=2) (xs:=(v10.set (Int.toNat v9) x15)) (z:=(w64 (v9-1))) (u:=x18) (w:=x16) (v:=.agg [.i x16.Side,.i x16.Time]) (L':=([(p1,.cells (((v10.set (Int.toNat v9) x15).set (Int.toNat (w64 (v9-1))) x16).map TrayPress.cells).flatten)]++Lo v13)) 0 hS rfl rfl (zaz hx18) (.st hS0 0 rfl (by omega)) (fun _=>rfl) rfl rfl zjz rfl fun H hS=>?_
     refine Ni ?_
     refine zak ?_
     refine Ws ?_
     refine Rg 3 ?_
     refine Om (.i v9) ?_
     refine Oi (.i (w64 (v9-1))) ?_
     refine Oa (.i (w64 (v9-1))) ?_
     refine Ni ?_
     exact zbY (w64 (v9-1),((v10.set (Int.toNat v9) x15).set (Int.toNat (w64 (v9-1))) x16),v13) (Nat.lt_succ_self _) (.k (.k (.k (.k (.k (.k .nil)))))) ⟨(hS.keep [true] rfl).up (by omega),hM⟩
    ·replace hM:=ifF hM hb14
     refine Cf hb14 ?_
     refine zcw ?_
     refine zax ?_
     refine zaq ?_
     refine zaG ?_
     refine zak ?_
     exact zal (v10,v13) (.k (.k (.k (.k (.k .nil))))) ⟨(hS.keep [true] rfl).up (by omega),hM⟩
   ·have hS0:=hS
    refine zdb (n:=17) rfl (by kernel_rfl) ?_
    refine Om (.i v9) ?_
    refine Om (.i a1) ?_
    refine Oi (.b (decide (v9>a1))) ?_
    refine Om (.b (decide (v9>a1))) ?_
    rcases bft (decide (v9>a1)) with hb19 | hb19
    ·replace hM:=ifT hM hb19
     refine Oy (want:=true) hb19 ?_
     refine Om (f0) ?_
     refine Oy (want:=true) hb19 ?_
     refine Om (.ms p1 0 2 mz0 mz0) ?_
     refine Oy (want:=true) hb19 ?_
     refine Om (.i v9) ?_
     refine Oy (want:=true) hb19 ?_
     obtain ⟨x20,hx20,hM⟩:=zap hM
     refine zbv (xs:=v10) (z:=v9) (u:=x20) (by decide) rfl (zbw hx20) rfl zdP (zaz hx20) ?_
     refine Oy (want:=true) hb19 ?_
     refine zhT (f:=TrayPress.cells) (xs:=v10) (z:=v9) (u:=x20) 0 hS (by decide) rfl rfl (zaz hx20) (.st hS0 0 rfl (by omega)) (fun _=>rfl) zhd ?_
     refine Oy (want:=true) hb19 ?_
     refine Om (.ms p1 0 2 mz0 mz0) ?_
     refine Oy (want:=true) hb19 ?_
     refine Om (.i v9) ?_
     refine Oy (want:=true) hb19 ?_
     refine Oi (.i (w64 (v9-1))) ?_
     refine Oy (want:=true) hb19 ?_
     obtain ⟨x21,hx21,hM⟩:=zap hM
     refine zbv (xs:=v10) (z:=(w64 (v9-1))) (u:=x21) (by decide) rfl (zbw hx21) rfl zdP (zaz hx21) ?_
     refine Oy (want:=true) hb19 ?_
     refine zhT (f:=TrayPress.cells) (xs:=v10) (z:=(w64 (v9-1))) (u:=x21) 0 hS (by decide) rfl rfl (zaz hx21) (.st hS0 0 rfl (by omega)) (fun _=>rfl) zhd ?_
     refine Oy (want:=true) hb19 ?_
     obtain ⟨r22,hr22,hM⟩:=zap hM
     replace hS:St (fun i=>i<g/\i∉ids ([(p1,.cells (st.1.map TrayPress.cells).flatten)]++Lo st.2)) H0 ([(p1,.cells (v10.map TrayPress.cells).flatten)]++Lo v11) _ _:=hS
     refine zmY (bs:=[.agg [.i x20.Side,.i x20.Time],.agg [.i x21.Side,.i x21.Time]]) (.inr (by kernel_rfl)) hS (by decide) rfl rfl ((hf hr22).le (.k (.k .nil))) (hk _ _).ids (by omega) fun H hS=>?_
     refine Oy (want:=true) hb19 ?_
     refine Oi (.b (decide (r22.1<0))) ?_
     refine Pt (.b (decide (r22.1<0))) hb19 ?_
     refine Ni ?_
     exact zal (decide (r22.1<0),r22.2) (.k (.k (.k (.k (.k (.k (.k .nil))))))) ⟨(hS.keep [true] rfl).up (by omega),hM⟩
    ·replace hM:=ifF hM hb19
     refine On (want:=true) hb19 ?_
     refine On (want:=true) hb19 ?_
     refine On (want:=true) hb19 ?_
     refine On (want:=true) hb19 ?_
     refine On (want:=true) hb19 ?_
     refine On (want:=true) hb19 ?_
     refine On (want:=true) hb19 ?_
     refine On (want:=true) hb19 ?_
     refine On (want:=true) hb19 ?_
     refine On (want:=true) hb19 ?_
     refine On (want:=true) hb19 ?_
     refine On (want:=true) hb19 ?_
     refine Pf (.b false) hb19 ?_
     refine Ni ?_
     exact zal (false,v11) (.k (.k (.k (.k (.k (.k (.k .nil))))))) ⟨(hS.keep [true] rfl).up (by omega),hM⟩
 ·replace hM:=ifF hM hb5
  refine Cf hb5 ?_
  refine zcw ?_
  refine zax ?_
  refine zaq ?_
  refine zaG ?_
  refine zfF (x:=.tup []) (f:=fun r=>.tup []) (fd:=fun r=>([(p1,.cells (r.2.1.map TrayPress.cells).flatten)]++Lo r.2.2)) (.inl rfl) ?_ (.refl _) (Option.some.inj hM) hS 0 rfl
  exact rfl
theorem zb6 {n:Nat} {a1:Int} {a2:Int} {r:Unit} (hM:zaW n a1 a2=some r):zaS Try.prog 108 [.sl .no 2 (([]:List TrayPress).map TrayPress.cells),.i a1,.i a2,.fn (.func 68) [] []] (.tup []):=by
 refine zaF mixed Try.func108 rfl (by decide) Try.ntmps108 (by simp) ?pure fun H0 g hf=>?_
 case pure=>exact .tup _ zaN
 rw [zaA]
 change wpA _ _ _ _ (Fr.of [(0,.sl .no 2 (([]:List TrayPress).map TrayPress.cells)),(1,.i a1),(2,.i a2),(3,.fn (.func 68) [] [])]) H0 g
 have hS:=St.start hf
 refine Sq ?_
 refine Rg 3 ?_
 refine Om (.i a1) ?_
 refine Oi (.i (w64 (a1+1))) ?_
 refine Oa (.i (w64 (a1+1))) ?_
 refine Ni ?_
 refine Ws ?_
 refine zaB ?_
 refine zcx (V:=Int) (fun v=>[(0,.sl .no 2 (([]:List TrayPress).map TrayPress.cells)),(1,.i a1),(2,.i a2),(3,.fn (.func 68) [] []),(8,.i v)]) (fun v m1 H' g'=>St (·<g) H0 [] H' g'/\zae n a1 a2 m1 v=some r) (n:=n) (w64 (a1+1)) (.k (.k (.k (.k (.k .nil))))) ⟨(hS.keep [] rfl).up (by omega),hM⟩ ?_
 rintro v1 m1 H g1 ⟨hS,hM⟩
 obtain _ | m1:=m1
 ·exact nomatch (show none=some _ from hM)
 change wpA _ _ _ _ (Fr.of [(0,.sl .no 2 (([]:List TrayPress).map TrayPress.cells)),(1,.i a1),(2,.i a2),(3,.fn (.func 68) [] []),(8,.i v1)]) _ _
 replace hS:St (·<g) H0 [] H g1:=hS
 replace hM:za2 n a1 a2 (zae n a1 a2 m1) v1=some r:=hM
 refine Sq ?_
 refine Sq ?_
 refine Rg 3 ?_
 refine Om (.i v1) ?_
 refine Om (.i a2) ?_
 refine Oi (.b (decide (v1<a2))) ?_
 refine Ni ?_
 refine Ws ?_
 rcases bft (decide (v1<a2)) with hb2 | hb2
 ·replace hM:=ifT hM hb2
  refine Ct hb2 ?_
  refine zaI ?_
  refine Ws ?_
  refine zaY (J:=Unit) (fun j=>[(0,.sl .no 2 (([]:List TrayPress).map TrayPress.cells)),(1,.i a1),(2,.i a2),(3,.fn (.func 68) [] []),(8,.i v1)]) (fun j H' g'=>St (·<g) H0 [] H' g'/\za9 (zae n a1 a2 m1) v1=some r) ?_ ?_
  ·rintro _ H g2 ⟨hS,hM⟩
   change wpA _ _ _ _ (Fr.of [(0,.sl .no 2 (([]:List TrayPress).map TrayPress.cells)),(1,.i a1),(2,.i a2),(3,.fn (.func 68) [] []),(8,.i v1)]) _ _
   replace hS:St (·<g) H0 [] H g2:=hS
   replace hM:za9 (zae n a1 a2 m1) v1=some r:=hM
   refine Rg 3 ?_
   refine Om (.i v1) ?_
   refine Oi (.i (w64 (v1+1))) ?_
   refine Oa (.i (w64 (v1+1))) ?_
   refine Ni ?_
   exact zbY (w64 (v1+1)) (Nat.lt_succ_self _) (.k (.k (.k (.k (.k .nil))))) ⟨(hS.keep [] rfl).up (by omega),hM⟩
  ·refine zaB ?_
   refine Sq ?_
   refine Rg 2 ?_
   refine Om (.i v1) ?_
   refine Oa (.i v1) ?_
   refine Ni ?_
   refine Ws ?_
   refine zaB ?_
   refine zcx (V:=Int) (fun v=>[(0,.sl .no 2 (([]:List TrayPress).map TrayPress.cells)),(1,.i a1),(2,.i a2),(3,.fn (.func 68) [] []),(8,.i v1),(9,.i v)]) (fun v m3 H' g'=>St (·<g) H0 [] H' g'/\zaQ (zae n a1 a2 m1) a1 v1 m3 v=some r) (n:=n) v1 (.k (.k (.k (.k (.k (.k .nil)))))) ⟨(hS.keep [] rfl).up (by omega),hM⟩ ?_
   rintro v3 m3 H g3 ⟨hS,hM⟩
   obtain _ | m3:=m3
   ·exact nomatch (show none=some _ from hM)
   change wpA _ _ _ _ (Fr.of [(0,.sl .no 2 (([]:List TrayPress).map TrayPress.cells)),(1,.i a1),(2,.i a2),(3,.fn (.func 68) [] []),(8,.i v1),(9,.i v3)]) _ _
   replace hS:St (·<g) H0 [] H g3:=hS
   replace hM:zbT (zae n a1 a2 m1) a1 v1 (zaQ (zae n a1 a2 m1) a1 v1 m3) v3=some r:=hM
   refine Sq ?_
   refine zaY (J:=Unit) (fun j=>[(0,.sl .no 2 (([]:List TrayPress).map TrayPress.cells)),(1,.i a1),(2,.i a2),(3,.fn (.func 68) [] []),(8,.i v1),(9,.i v3),(34,.b false)]) (fun j H' g'=>St (·<g) H0 [] H' g'/\zba (zae n a1 a2 m1) v1=some r) ?_ ?_
   ·rintro _ H g4 ⟨hS,hM⟩
    change wpA _ _ _ _ (Fr.of [(0,.sl .no 2 (([]:List TrayPress).map TrayPress.cells)),(1,.i a1),(2,.i a2),(3,.fn (.func 68) [] []),(8,.i v1),(9,.i v3),(34,.b false)]) _ _
    replace hS:St (·<g) H0 [] H g4:=hS
    replace hM:zba (zae n a1 a2 m1) v1=some r:=hM
    refine zkE (e:=false) rfl rfl ?_
    refine zcw ?_
    refine zax ?_
    refine zaq ?_
    refine zaG ?_
    refine zak ?_
    exact zal () (.k (.k (.k (.k (.k .nil))))) ⟨(hS.keep [] rfl).up (by omega),hM⟩
   ·have hS0:=hS
    refine zdb (n:=17) rfl (by kernel_rfl) ?_
    refine Om (.i v3) ?_
    refine Om (.i a1) ?_
    refine Oi (.b (decide (v3>a1))) ?_
    refine Om (.b (decide (v3>a1))) ?_
    rcases bft (decide (v3>a1)) with hb4 | hb4
    ·replace hM:=ifT hM hb4
     refine Oy (want:=true) hb4 ?_
     refine Om (.fn (.func 68) [] []) ?_
     refine Oy (want:=true) hb4 ?_
     refine Om (.sl .no 2 (([]:List TrayPress).map TrayPress.cells)) ?_
     refine Oy (want:=true) hb4 ?_
     refine Om (.i v3) ?_
     refine Oy (want:=true) hb4 ?_
     exact nomatch (show none=some _ from hM)
    ·replace hM:=ifF hM hb4
     refine On (want:=true) hb4 ?_
     refine On (want:=true) hb4 ?_
     refine On (want:=true) hb4 ?_
     refine On (want:=true) hb4 ?_
     refine On (want:=true) hb4 ?_
     refine On (want:=true) hb4 ?_
     refine On (want:=true) hb4 ?_
     refine On (want:=true) hb4 ?_
     refine On (want:=true) hb4 ?_
     refine On (want:=true) hb4 ?_
     refine On (want:=true) hb4 ?_
     refine On (want:=true) hb4 ?_
     refine Pf (.b false) hb4 ?_
     refine Ni ?_
     exact zal () (.k (.k (.k (.k (.k (.k (.k .nil))))))) ⟨(hS.keep [] rfl).up (by omega),hM⟩
 ·replace hM:=ifF hM hb2
  refine Cf hb2 ?_
  refine zcw ?_
  refine zax ?_
  refine zaq ?_
  refine zaG ?_
  refine zbL (x:=.tup []) (f:=fun r=>.tup []) (.inl rfl) ?_ (.refl _) (Option.some.inj hM) hS
  exact rfl
theorem zei {S:Type} {Lo:S->BL} (hk:∀s s',zhG (Lo s) (Lo s')) {p1:Nat} (hnd:∀s,([p1]++ids (Lo s)).Nodup) (hin:∀s,InB In (Lo s)) {aF:TrayPress->TrayPress->S->Option (Int×S)} {f0:AV} (hF:∀s H,Has H (Lo s)->In H f0) (h0:cellsOf f0=some [f0]) (hf:∀{x0:TrayPress} {x1:TrayPress} {s:S} {r:Int×S},aF x0 x1 s=some r->zmi Try.prog f0 [.agg [.i x0.Side,.i x0.Time],.agg [.i x1.Side,.i x1.Time]] (Lo s) (.i r.1) (Lo r.2)) {n:Nat} {a1:Int} {mz0:Nat} {st:(List TrayPress)×S} {r:Unit×((List TrayPress)×S)} (hM:zcc n aF a1 mz0 st=some r):ziI Try.prog 90 [.ms p1 0 2 mz0 mz0,.i a1,f0] ([(p1,.cells (st.1.map TrayPress.cells).flatten)]++Lo st.2) (.tup []) ([(p1,.cells (r.2.1.map TrayPress.cells).flatten)]++Lo r.2.2):=by
 have hnd0:∀s,(ids (Lo s)).Nodup:=fun s=>(List.nodup_append.1 (hnd s)).2.1
 refine zdv mixed Try.func90 rfl (by decide) Try.ntmps90 (by simp) (zhw (zdA zfG) (hk _ _)) (hnd st.2) ?pure ?cells fun H0 g hf_ hp=>?_
 case pure=>exact fun H _=>(show Go.AM.Pure _ from .tup _ zaN).inH
 case cells=>exact (zgz (zdz (zfk (fun x=>(zaf (.v _) (zaf (.v _) zaN)))) zgy) (hin _))
 rw [zaA]
 change wpA _ _ _ _ (Fr.of [(0,.ms p1 0 2 mz0 mz0),(1,.i a1),(2,f0)]) H0 g
 have hS:=St.startH (L:=([(p1,.cells (st.1.map TrayPress.cells).flatten)]++Lo st.2)) hf_ (ziZ (hnd st.2)) hp
 replace hS:St (fun i=>i<g/\i∉ids ([(p1,.cells (st.1.map TrayPress.cells).flatten)]++Lo st.2)) H0 ([(p1,.cells (st.1.map TrayPress.cells).flatten)]++Lo st.2) H0 g:=hS
 refine Sq ?_
 refine Rg 1 ?_
 refine Oa (.i 20) ?_
 refine Ni ?_
 refine Ws ?_
 refine Sq ?_
 refine Rg 3 ?_
 refine Om (.i 20) ?_
 refine Oa (.i 0) ?_
 refine Oa (.i 20) ?_
 refine Ni ?_
 refine Ws ?_
 refine zaY (J:=Int×(List TrayPress)×S) (fun j=>[(0,.ms p1 0 2 mz0 mz0),(1,.i a1),(2,f0),(6,.i 20),(7,.i j.1)]) (fun j H' g'=>St (fun i=>i<g/\i∉ids ([(p1,.cells (st.1.map TrayPress.cells).flatten)]++Lo st.2)) H0 ([(p1,.cells (j.2.1.map TrayPress.cells).flatten)]++Lo j.2.2) H' g'/\zbh n a1 aF mz0 j.1 j.2.1 j.2.2=some r) ?_ ?_
 ·rintro ⟨v1,v2,v3⟩ H g1 ⟨hS,hM⟩
  change wpA _ _ _ _ (Fr.of [(0,.ms p1 0 2 mz0 mz0),(1,.i a1),(2,f0),(6,.i 20),(7,.i v1)]) _ _
  replace hS:St (fun i=>i<g/\i∉ids ([(p1,.cells (st.1.map TrayPress.cells).flatten)]++Lo st.2)) H0 ([(p1,.cells (v2.map TrayPress.cells).flatten)]++Lo v3) H g1:=hS
  replace hM:zbh n a1 aF mz0 v1 v2 v3=some r:=hM
  refine Sq ?_
  refine Rg 5 ?_
  refine Om (.ms p1 0 2 mz0 mz0) ?_
  refine Om (.i v1) ?_
  refine Om (.i a1) ?_
  refine Om (f0) ?_
  obtain ⟨r4,hr4,hM⟩:=zap hM
  replace hS:St (fun i=>i<g/\i∉ids ([(p1,.cells (st.1.map TrayPress.cells).flatten)]++Lo st.2)) H0 ([(p1,.cells (v2.map TrayPress.cells).flatten)]++Lo v3) _ _:=hS
  have hndr4:=hS.nd_atS (ns:=[0]) (A:=[(p1,.cells (v2.map TrayPress.cells).flatten)]) (A':=[(p1,.cells (r4.2.1.map TrayPress.cells).flatten)]) (.cons rfl .nil) (by decide)
  refine zht (bs:=[.ms p1 0 2 mz0 mz0,.i v1,.i a1,f0]) (A:=[(p1,.cells (v2.map TrayPress.cells).flatten)]) (A':=[(p1,.cells (r4.2.1.map TrayPress.cells).flatten)]) (M:=Lo v3) (M':=Lo r4.2.2) (L':=[(p1,.cells (r4.2.1.map TrayPress.cells).flatten)]) [0] (.inl rfl) hS (by decide) rfl rfl ((zci (Lo:=Lo) (p1:=p1) hk (fun s=>zhx (T':=Lo s) (hk _ _) hndr4) hin (aF:=aF) hF h0 hf hr4).le (.k (.k (.k (.k .nil))))) (.cons rfl .nil) (hk _ _).ids rfl (by omega) fun H hS=>?_
  refine Ni ?_
  refine Ws ?_
  refine zaB ?_
  refine zcx (V:=Int) (fun v=>[(0,.ms p1 0 2 mz0 mz0),(1,.i a1),(2,f0),(6,.i v)]) (fun v m2 H' g'=>St (fun i=>i<g/\i∉ids ([(p1,.cells (st.1.map TrayPress.cells).flatten)]++Lo st.2)) H0 ([(p1,.cells (r4.2.1.map TrayPress.cells).flatten)]++Lo r4.2.2) H' g'/\zah n a1 r4 m2 v=some r) (n:=n) 20 (.k (.k (.k (.k .nil)))) ⟨(hS.keep [true] rfl).up (by omega),hM⟩ ?_
  rintro v5 m2 H g2 ⟨hS,hM⟩
  obtain _ | m2:=m2
  ·exact nomatch (show none=some _ from hM)
  change wpA _ _ _ _ (Fr.of [(0,.ms p1 0 2 mz0 mz0),(1,.i a1),(2,f0),(6,.i v5)]) _ _
  replace hS:St (fun i=>i<g/\i∉ids ([(p1,.cells (st.1.map TrayPress.cells).flatten)]++Lo st.2)) H0 ([(p1,.cells (r4.2.1.map TrayPress.cells).flatten)]++Lo r4.2.2) H g2:=hS
  replace hM:zbE n a1 r4 (zah n a1 r4 m2) v5=some r:=hM
  refine Sq ?_
  refine Sq ?_
  refine Rg 3 ?_
  refine Om (.i v5) ?_
  refine Om (.i a1) ?_
  refine Oi (.b (decide (v5<a1))) ?_
  refine Ni ?_
  refine Ws ?_
  rcases bft (decide (v5<a1)) with hb6 | hb6
  ·replace hM:=ifT hM hb6
   refine Ct hb6 ?_
   refine zaI ?_
   refine Ws ?_
   refine zaB ?_
   refine Sq ?_
   refine Rg 4 ?_
   refine Om (.i v5) ?_
   refine Oi (.i (w64 (2*v5))) ?_
   refine Oa (.i 0) ?_
   refine Oa (.i (w64 (2*v5))) ?_
   refine Ni ?_
   refine Ws ?_
   refine zaY (J:=Int) (fun j=>[(0,.ms p1 0 2 mz0 mz0),(1,.i a1),(2,f0),(6,.i v5),(7,.i j)]) (fun j H' g'=>St (fun i=>i<g/\i∉ids ([(p1,.cells (st.1.map TrayPress.cells).flatten)]++Lo st.2)) H0 ([(p1,.cells (r4.2.1.map TrayPress.cells).flatten)]++Lo r4.2.2) H' g'/\zbV (zah n a1 r4 m2) a1 v5 j=some r) ?_ ?_
   ·rintro v7 H g3 ⟨hS,hM⟩
    change wpA _ _ _ _ (Fr.of [(0,.ms p1 0 2 mz0 mz0),(1,.i a1),(2,f0),(6,.i v5),(7,.i v7)]) _ _
    replace hS:St (fun i=>i<g/\i∉ids ([(p1,.cells (st.1.map TrayPress.cells).flatten)]++Lo st.2)) H0 ([(p1,.cells (r4.2.1.map TrayPress.cells).flatten)]++Lo r4.2.2) H g3:=hS
    replace hM:zbV (zah n a1 r4 m2) a1 v5 v7=some r:=hM
    refine zaY (J:=Unit) (fun j=>[(0,.ms p1 0 2 mz0 mz0),(1,.i a1),(2,f0),(6,.i v5)]) (fun j H' g'=>St (fun i=>i<g/\i∉ids ([(p1,.cells (st.1.map TrayPress.cells).flatten)]++Lo st.2)) H0 ([(p1,.cells (r4.2.1.map TrayPress.cells).flatten)]++Lo r4.2.2) H' g'/\zbU (zah n a1 r4 m2) v5=some r) ?_ ?_
    ·rintro _ H g4 ⟨hS,hM⟩
     change wpA _ _ _ _ (Fr.of [(0,.ms p1 0 2 mz0 mz0),(1,.i a1),(2,f0),(6,.i v5)]) _ _
     replace hS:St (fun i=>i<g/\i∉ids ([(p1,.cells (st.1.map TrayPress.cells).flatten)]++Lo st.2)) H0 ([(p1,.cells (r4.2.1.map TrayPress.cells).flatten)]++Lo r4.2.2) H g4:=hS
     replace hM:zbU (zah n a1 r4 m2) v5=some r:=hM
     refine Rg 3 ?_
     refine Om (.i v5) ?_
     refine Oi (.i (w64 (v5*2))) ?_
     refine Oa (.i (w64 (v5*2))) ?_
     refine Ni ?_
     refine zak ?_
     exact zbY (w64 (v5*2)) (Nat.lt_succ_self _) (.k (.k (.k (.k .nil)))) ⟨(hS.keep [true] rfl).up (by omega),hM⟩
    ·refine Sq ?_
     refine Rg 4 ?_
     refine Om (.i v7) ?_
     refine Om (.i v5) ?_
     refine Oi (.i (w64 (v7+v5))) ?_
     refine Oa (.i (w64 (v7+v5))) ?_
     refine Ni ?_
     refine Ws ?_
     refine Sq ?_
     refine Rg 3 ?_
     refine Om (.i (w64 (v7+v5))) ?_
     refine Om (.i a1) ?_
     refine Oi (.b (decide ((w64 (v7+v5))<a1))) ?_
     refine Ni ?_
     refine Ws ?_
     rcases bft (decide ((w64 (v7+v5))<a1)) with hb8 | hb8
     ·replace hM:=ifT hM hb8
      refine Ct hb8 ?_
      refine Rg 6 ?_
      refine Om (.ms p1 0 2 mz0 mz0) ?_
      refine Om (.i v7) ?_
      refine Om (.i (w64 (v7+v5))) ?_
      refine Om (.i a1) ?_
      refine Om (f0) ?_
      exact nomatch (show none=some _ from hM)
     ·replace hM:=ifF hM hb8
      refine Cf hb8 ?_
      refine zaI ?_
      exact zal () (.k (.k (.k (.k .nil)))) ⟨(hS.keep [true] rfl).up (by omega),hM⟩
   ·refine zaB ?_
    refine zcx (V:=Int×Int) (fun v=>[(0,.ms p1 0 2 mz0 mz0),(1,.i a1),(2,f0),(6,.i v5),(7,.i v.1),(8,.i v.2)]) (fun v m5 H' g'=>St (fun i=>i<g/\i∉ids ([(p1,.cells (st.1.map TrayPress.cells).flatten)]++Lo st.2)) H0 ([(p1,.cells (r4.2.1.map TrayPress.cells).flatten)]++Lo r4.2.2) H' g'/\zbg (zah n a1 r4 m2) a1 v5 m5 v.1 v.2=some r) (n:=n) (0,w64 (2*v5)) (.k (.k (.k (.k (.k (.k .nil)))))) ⟨(hS.keep [true] rfl).up (by omega),hM⟩ ?_
    rintro ⟨v9,v10⟩ m5 H g5 ⟨hS,hM⟩
    obtain _ | m5:=m5
    ·exact nomatch (show none=some _ from hM)
    change wpA _ _ _ _ (Fr.of [(0,.ms p1 0 2 mz0 mz0),(1,.i a1),(2,f0),(6,.i v5),(7,.i v9),(8,.i v10)]) _ _
    replace hS:St (fun i=>i<g/\i∉ids ([(p1,.cells (st.1.map TrayPress.cells).flatten)]++Lo st.2)) H0 ([(p1,.cells (r4.2.1.map TrayPress.cells).flatten)]++Lo r4.2.2) H g5:=hS
    replace hM:zcC (zah n a1 r4 m2) a1 v5 (zbg (zah n a1 r4 m2) a1 v5 m5) v9 v10=some r:=hM
    refine Sq ?_
    refine Sq ?_
    refine Rg 3 ?_
    refine Om (.i v10) ?_
    refine Om (.i a1) ?_
    refine Oi (.b (decide (v10<=a1))) ?_
    refine Ni ?_
    refine Ws ?_
    rcases bft (decide (v10<=a1)) with hb11 | hb11
    ·replace hM:=ifT hM hb11
     refine Ct hb11 ?_
     refine zaI ?_
     refine Ws ?_
     refine zaB ?_
     refine Sq ?_
     refine Rg 8 ?_
     refine Om (.ms p1 0 2 mz0 mz0) ?_
     refine Om (.i v9) ?_
     refine Om (.i v9) ?_
     refine Om (.i v5) ?_
     refine Oi (.i (w64 (v9+v5))) ?_
     refine Om (.i v10) ?_
     refine Om (f0) ?_
     exact nomatch (show none=some _ from hM)
    ·replace hM:=ifF hM hb11
     refine Cf hb11 ?_
     refine zcw ?_
     refine zax ?_
     refine zaq ?_
     refine zaG ?_
     exact zal v9 (.k (.k (.k (.k (.k .nil))))) ⟨(hS.keep [true] rfl).up (by omega),hM⟩
  ·replace hM:=ifF hM hb6
   refine Cf hb6 ?_
   refine zcw ?_
   refine zax ?_
   refine zaq ?_
   refine zaG ?_
   refine zfF (x:=.tup []) (f:=fun r=>.tup []) (fd:=fun r=>([(p1,.cells (r.2.1.map TrayPress.cells).flatten)]++Lo r.2.2)) (.inl rfl) ?_ (.refl _) (Option.some.inj hM) hS 0 rfl
   exact rfl
 ·refine zaB ?_
  refine zcx (V:=Int×Int×(List TrayPress)×S) (fun v=>[(0,.ms p1 0 2 mz0 mz0),(1,.i a1),(2,f0),(6,.i 20),(7,.i v.1),(8,.i v.2.1)]) (fun v m7 H' g'=>St (fun i=>i<g/\i∉ids ([(p1,.cells (st.1.map TrayPress.cells).flatten)]++Lo st.2)) H0 ([(p1,.cells (v.2.2.1.map TrayPress.cells).flatten)]++Lo v.2.2.2) H' g'/\zaU n a1 aF mz0 m7 v.1 v.2.1 v.2.2.1 v.2.2.2=some r) (n:=n) (0,20,st.1,st.2) (.k (.k (.k (.k (.k (.k .nil)))))) ⟨(hS.keep [true] rfl).up (by omega),hM⟩ ?_
  rintro ⟨v14,v15,v16,v17⟩ m7 H g7 ⟨hS,hM⟩
  obtain _ | m7:=m7
  ·exact nomatch (show none=some _ from hM)
  change wpA _ _ _ _ (Fr.of [(0,.ms p1 0 2 mz0 mz0),(1,.i a1),(2,f0),(6,.i 20),(7,.i v14),(8,.i v15)]) _ _
  replace hS:St (fun i=>i<g/\i∉ids ([(p1,.cells (st.1.map TrayPress.cells).flatten)]++Lo st.2)) H0 ([(p1,.cells (v16.map TrayPress.cells).flatten)]++Lo v17) H g7:=hS
  replace hM:zbF n a1 aF mz0 (zaU n a1 aF mz0 m7) v14 v15 v16 v17=some r:=hM
  refine Sq ?_
  refine Sq ?_
  refine Rg 3 ?_
  refine Om (.i v15) ?_
  refine Om (.i a1) ?_
  refine Oi (.b (decide (v15<=a1))) ?_
  refine Ni ?_
  refine Ws ?_
  rcases bft (decide (v15<=a1)) with hb18 | hb18
  ·replace hM:=ifT hM hb18
   refine Ct hb18 ?_
   refine zaI ?_
   refine Ws ?_
   refine zaB ?_
   refine Sq ?_
   refine Rg 5 ?_
   refine Om (.ms p1 0 2 mz0 mz0) ?_
   refine Om (.i v14) ?_
   refine Om (.i v15) ?_
   refine Om (f0) ?_
   obtain ⟨r19,hr19,hM⟩:=zap hM
   replace hS:St (fun i=>i<g/\i∉ids ([(p1,.cells (st.1.map TrayPress.cells).flatten)]++Lo st.2)) H0 ([(p1,.cells (v16.map TrayPress.cells).flatten)]++Lo v17) _ _:=hS
   have hndr19:=hS.nd_atS (ns:=[0]) (A:=[(p1,.cells (v16.map TrayPress.cells).flatten)]) (A':=[(p1,.cells (r19.2.1.map TrayPress.cells).flatten)]) (.cons rfl .nil) (by decide)
   refine zht (bs:=[.ms p1 0 2 mz0 mz0,.i v14,.i v15,f0]) (A:=[(p1,.cells (v16.map TrayPress.cells).flatten)]) (A':=[(p1,.cells (r19.2.1.map TrayPress.cells).flatten)]) (M:=Lo v17) (M':=Lo r19.2.2) (L':=[(p1,.cells (r19.2.1.map TrayPress.cells).flatten)]) [0] (.inl rfl) hS (by decide) rfl rfl ((zci (Lo:=Lo) (p1:=p1) hk (fun s=>zhx (T':=Lo s) (hk _ _) hndr19) hin (aF:=aF) hF h0 hf hr19).le (.k (.k (.k (.k .nil))))) (.cons rfl .nil) (hk _ _).ids rfl (by omega) fun H hS=>?_
   refine Ni ?_
   refine Ws ?_
   refine Sq ?_
   refine Rg 2 ?_
   refine Om (.i v15) ?_
   refine Oa (.i v15) ?_
   refine Ni ?_
   refine Ws ?_
   refine Rg 4 ?_
   refine Om (.i v15) ?_
   refine Om (.i 20) ?_
   refine Oi (.i (w64 (v15+20))) ?_
   refine Oa (.i (w64 (v15+20))) ?_
   refine Ni ?_
   refine zak ?_
   exact zbY (v15,w64 (v15+20),r19.2.1,r19.2.2) (Nat.lt_succ_self _) (.k (.k (.k (.k (.k (.k .nil)))))) ⟨(hS.keep [true] rfl).up (by omega),hM⟩
  ·replace hM:=ifF hM hb18
   refine Cf hb18 ?_
   refine zcw ?_
   refine zax ?_
   refine zaq ?_
   refine zaG ?_
   exact zal (v14,v16,v17) (.k (.k (.k (.k (.k .nil))))) ⟨(hS.keep [true] rfl).up (by omega),hM⟩
theorem zd4 {n:Nat} {a1:Int} {r:Unit} (hM:zbZ n a1=some r):zaS Try.prog 90 [.sl .no 2 (([]:List TrayPress).map TrayPress.cells),.i a1,.fn (.func 68) [] []] (.tup []):=by
 refine zaF mixed Try.func90 rfl (by decide) Try.ntmps90 (by simp) ?pure fun H0 g hf=>?_
 case pure=>exact .tup _ zaN
 rw [zaA]
 change wpA _ _ _ _ (Fr.of [(0,.sl .no 2 (([]:List TrayPress).map TrayPress.cells)),(1,.i a1),(2,.fn (.func 68) [] [])]) H0 g
 have hS:=St.start hf
 refine Sq ?_
 refine Rg 1 ?_
 refine Oa (.i 20) ?_
 refine Ni ?_
 refine Ws ?_
 refine Sq ?_
 refine Rg 3 ?_
 refine Om (.i 20) ?_
 refine Oa (.i 0) ?_
 refine Oa (.i 20) ?_
 refine Ni ?_
 refine Ws ?_
 refine zaY (J:=Int) (fun j=>[(0,.sl .no 2 (([]:List TrayPress).map TrayPress.cells)),(1,.i a1),(2,.fn (.func 68) [] []),(6,.i 20),(7,.i j)]) (fun j H' g'=>St (·<g) H0 [] H' g'/\za5 n a1 j=some r) ?_ ?_
 ·rintro v1 H g1 ⟨hS,hM⟩
  change wpA _ _ _ _ (Fr.of [(0,.sl .no 2 (([]:List TrayPress).map TrayPress.cells)),(1,.i a1),(2,.fn (.func 68) [] []),(6,.i 20),(7,.i v1)]) _ _
  replace hS:St (·<g) H0 [] H g1:=hS
  replace hM:za5 n a1 v1=some r:=hM
  refine Sq ?_
  refine Rg 5 ?_
  refine Om (.sl .no 2 (([]:List TrayPress).map TrayPress.cells)) ?_
  refine Om (.i v1) ?_
  refine Om (.i a1) ?_
  refine Om (.fn (.func 68) [] []) ?_
  obtain ⟨r2,hr2,hM⟩:=zap hM
  refine zbo (bs:=[.sl .no 2 (([]:List TrayPress).map TrayPress.cells),.i v1,.i a1,.fn (.func 68) [] []]) (by decide) rfl rfl ((zb6 hr2).le (.k (.k (.k (.k .nil))))) ?_
  refine Ni ?_
  refine Ws ?_
  refine zaB ?_
  refine zcx (V:=Int) (fun v=>[(0,.sl .no 2 (([]:List TrayPress).map TrayPress.cells)),(1,.i a1),(2,.fn (.func 68) [] []),(6,.i v)]) (fun v m2 H' g'=>St (·<g) H0 [] H' g'/\zag n a1 m2 v=some r) (n:=n) 20 (.k (.k (.k (.k .nil)))) ⟨(hS.keep [] rfl).up (by omega),hM⟩ ?_
  rintro v3 m2 H g2 ⟨hS,hM⟩
  obtain _ | m2:=m2
  ·exact nomatch (show none=some _ from hM)
  change wpA _ _ _ _ (Fr.of [(0,.sl .no 2 (([]:List TrayPress).map TrayPress.cells)),(1,.i a1),(2,.fn (.func 68) [] []),(6,.i v3)]) _ _
  replace hS:St (·<g) H0 [] H g2:=hS
  replace hM:zbs n a1 (zag n a1 m2) v3=some r:=hM
  refine Sq ?_
  refine Sq ?_
  refine Rg 3 ?_
  refine Om (.i v3) ?_
  refine Om (.i a1) ?_
  refine Oi (.b (decide (v3<a1))) ?_
  refine Ni ?_
  refine Ws ?_
  rcases bft (decide (v3<a1)) with hb4 | hb4
  ·replace hM:=ifT hM hb4
   refine Ct hb4 ?_
   refine zaI ?_
   refine Ws ?_
   refine zaB ?_
   refine Sq ?_
   refine Rg 4 ?_
   refine Om (.i v3) ?_
   refine Oi (.i (w64 (2*v3))) ?_
   refine Oa (.i 0) ?_
   refine Oa (.i (w64 (2*v3))) ?_
   refine Ni ?_
   refine Ws ?_
   refine zaY (J:=Int) (fun j=>[(0,.sl .no 2 (([]:List TrayPress).map TrayPress.cells)),(1,.i a1),(2,.fn (.func 68) [] []),(6,.i v3),(7,.i j)]) (fun j H' g'=>St (·<g) H0 [] H' g'/\zbH (zag n a1 m2) a1 v3 j=some r) ?_ ?_
   ·rintro v5 H g3 ⟨hS,hM⟩
    change wpA _ _ _ _ (Fr.of [(0,.sl .no 2 (([]:List TrayPress).map TrayPress.cells)),(1,.i a1),(2,.fn (.func 68) [] []),(6,.i v3),(7,.i v5)]) _ _
    replace hS:St (·<g) H0 [] H g3:=hS
    replace hM:zbH (zag n a1 m2) a1 v3 v5=some r:=hM
    refine zaY (J:=Unit) (fun j=>[(0,.sl .no 2 (([]:List TrayPress).map TrayPress.cells)),(1,.i a1),(2,.fn (.func 68) [] []),(6,.i v3)]) (fun j H' g'=>St (·<g) H0 [] H' g'/\zbG (zag n a1 m2) v3=some r) ?_ ?_
    ·rintro _ H g4 ⟨hS,hM⟩
     change wpA _ _ _ _ (Fr.of [(0,.sl .no 2 (([]:List TrayPress).map TrayPress.cells)),(1,.i a1),(2,.fn (.func 68) [] []),(6,.i v3)]) _ _
     replace hS:St (·<g) H0 [] H g4:=hS
     replace hM:zbG (zag n a1 m2) v3=some r:=hM
     refine Rg 3 ?_
     refine Om (.i v3) ?_
     refine Oi (.i (w64 (v3*2))) ?_
     refine Oa (.i (w64 (v3*2))) ?_
     refine Ni ?_
     refine zak ?_
     exact zbY (w64 (v3*2)) (Nat.lt_succ_self _) (.k (.k (.k (.k .nil)))) ⟨(hS.keep [] rfl).up (by omega),hM⟩
    ·refine Sq ?_
     refine Rg 4 ?_
     refine Om (.i v5) ?_
     refine Om (.i v3) ?_
     refine Oi (.i (w64 (v5+v3))) ?_
     refine Oa (.i (w64 (v5+v3))) ?_
     refine Ni ?_
     refine Ws ?_
     refine Sq ?_
     refine Rg 3 ?_
     refine Om (.i (w64 (v5+v3))) ?_
     refine Om (.i a1) ?_
     refine Oi (.b (decide ((w64 (v5+v3))<a1))) ?_
     refine Ni ?_
     refine Ws ?_
     rcases bft (decide ((w64 (v5+v3))<a1)) with hb6 | hb6
     ·replace hM:=ifT hM hb6
      refine Ct hb6 ?_
      refine Rg 6 ?_
      refine Om (.sl .no 2 (([]:List TrayPress).map TrayPress.cells)) ?_
      refine Om (.i v5) ?_
      refine Om (.i (w64 (v5+v3))) ?_
      refine Om (.i a1) ?_
      refine Om (.fn (.func 68) [] []) ?_
      exact nomatch (show none=some _ from hM)
     ·replace hM:=ifF hM hb6
      refine Cf hb6 ?_
      refine zaI ?_
      exact zal () (.k (.k (.k (.k .nil)))) ⟨(hS.keep [] rfl).up (by omega),hM⟩
   ·refine zaB ?_
    refine zcx (V:=Int×Int) (fun v=>[(0,.sl .no 2 (([]:List TrayPress).map TrayPress.cells)),(1,.i a1),(2,.fn (.func 68) [] []),(6,.i v3),(7,.i v.1),(8,.i v.2)]) (fun v m5 H' g'=>St (·<g) H0 [] H' g'/\za4 (zag n a1 m2) a1 v3 m5 v.1 v.2=some r) (n:=n) (0,w64 (2*v3)) (.k (.k (.k (.k (.k (.k .nil)))))) ⟨(hS.keep [] rfl).up (by omega),hM⟩ ?_
    rintro ⟨v7,v8⟩ m5 H g5 ⟨hS,hM⟩
    obtain _ | m5:=m5
    ·exact nomatch (show none=some _ from hM)
    change wpA _ _ _ _ (Fr.of [(0,.sl .no 2 (([]:List TrayPress).map TrayPress.cells)),(1,.i a1),(2,.fn (.func 68) [] []),(6,.i v3),(7,.i v7),(8,.i v8)]) _ _
    replace hS:St (·<g) H0 [] H g5:=hS
    replace hM:zcs (zag n a1 m2) a1 v3 (za4 (zag n a1 m2) a1 v3 m5) v7 v8=some r:=hM
    refine Sq ?_
    refine Sq ?_
    refine Rg 3 ?_
    refine Om (.i v8) ?_
    refine Om (.i a1) ?_
    refine Oi (.b (decide (v8<=a1))) ?_
    refine Ni ?_
    refine Ws ?_
    rcases bft (decide (v8<=a1)) with hb9 | hb9
    ·replace hM:=ifT hM hb9
     refine Ct hb9 ?_
     refine zaI ?_
     refine Ws ?_
     refine zaB ?_
     refine Sq ?_
     refine Rg 8 ?_
     refine Om (.sl .no 2 (([]:List TrayPress).map TrayPress.cells)) ?_
     refine Om (.i v7) ?_
     refine Om (.i v7) ?_
     refine Om (.i v3) ?_
     refine Oi (.i (w64 (v7+v3))) ?_
     refine Om (.i v8) ?_
     refine Om (.fn (.func 68) [] []) ?_
     exact nomatch (show none=some _ from hM)
    ·replace hM:=ifF hM hb9
     refine Cf hb9 ?_
     refine zcw ?_
     refine zax ?_
     refine zaq ?_
     refine zaG ?_
     exact zal v7 (.k (.k (.k (.k (.k .nil))))) ⟨(hS.keep [] rfl).up (by omega),hM⟩
  ·replace hM:=ifF hM hb4
   refine Cf hb4 ?_
   refine zcw ?_
   refine zax ?_
   refine zaq ?_
   refine zaG ?_
   refine zbL (x:=.tup []) (f:=fun r=>.tup []) (.inl rfl) ?_ (.refl _) (Option.some.inj hM) hS
   exact rfl
 ·refine zaB ?_
  refine zcx (V:=Int×Int) (fun v=>[(0,.sl .no 2 (([]:List TrayPress).map TrayPress.cells)),(1,.i a1),(2,.fn (.func 68) [] []),(6,.i 20),(7,.i v.1),(8,.i v.2)]) (fun v m6 H' g'=>St (·<g) H0 [] H' g'/\zaR n a1 m6 v.1 v.2=some r) (n:=n) (0,20) (.k (.k (.k (.k (.k (.k .nil)))))) ⟨(hS.keep [] rfl).up (by omega),hM⟩ ?_
  rintro ⟨v10,v11⟩ m6 H g6 ⟨hS,hM⟩
  obtain _ | m6:=m6
  ·exact nomatch (show none=some _ from hM)
  change wpA _ _ _ _ (Fr.of [(0,.sl .no 2 (([]:List TrayPress).map TrayPress.cells)),(1,.i a1),(2,.fn (.func 68) [] []),(6,.i 20),(7,.i v10),(8,.i v11)]) _ _
  replace hS:St (·<g) H0 [] H g6:=hS
  replace hM:zbt n a1 (zaR n a1 m6) v10 v11=some r:=hM
  refine Sq ?_
  refine Sq ?_
  refine Rg 3 ?_
  refine Om (.i v11) ?_
  refine Om (.i a1) ?_
  refine Oi (.b (decide (v11<=a1))) ?_
  refine Ni ?_
  refine Ws ?_
  rcases bft (decide (v11<=a1)) with hb12 | hb12
  ·replace hM:=ifT hM hb12
   refine Ct hb12 ?_
   refine zaI ?_
   refine Ws ?_
   refine zaB ?_
   refine Sq ?_
   refine Rg 5 ?_
   refine Om (.sl .no 2 (([]:List TrayPress).map TrayPress.cells)) ?_
   refine Om (.i v10) ?_
   refine Om (.i v11) ?_
   refine Om (.fn (.func 68) [] []) ?_
   obtain ⟨r13,hr13,hM⟩:=zap hM
   refine zbo (bs:=[.sl .no 2 (([]:List TrayPress).map TrayPress.cells),.i v10,.i v11,.fn (.func 68) [] []]) (by decide) rfl rfl ((zb6 hr13).le (.k (.k (.k (.k .nil))))) ?_
   refine Ni ?_
   refine Ws ?_
   refine Sq ?_
   refine Rg 2 ?_
   refine Om (.i v11) ?_
   refine Oa (.i v11) ?_
   refine Ni ?_
   refine Ws ?_
   refine Rg 4 ?_
   refine Om (.i v11) ?_
   refine Om (.i 20) ?_
   refine Oi (.i (w64 (v11+20))) ?_
   refine Oa (.i (w64 (v11+20))) ?_
   refine Ni ?_
   refine zak ?_
   exact zbY (v11,w64 (v11+20)) (Nat.lt_succ_self _) (.k (.k (.k (.k (.k (.k .nil)))))) ⟨(hS.keep [] rfl).up (by omega),hM⟩
  ·replace hM:=ifF hM hb12
   refine Cf hb12 ?_
   refine zcw ?_
   refine zax ?_
   refine zaq ?_
   refine zaG ?_
   exact zal v10 (.k (.k (.k (.k (.k .nil))))) ⟨(hS.keep [] rfl).up (by omega),hM⟩
theorem zd9 {S:Type} {Lo:S->BL} (hk:∀s s',zhG (Lo s) (Lo s')) {p1:Nat} (hnd:∀s,([p1]++ids (Lo s)).Nodup) (hin:∀s,InB In (Lo s)) {aF:TrayPress->TrayPress->S->Option (Int×S)} {f0:AV} (hF:∀s H,Has H (Lo s)->In H f0) (h0:cellsOf f0=some [f0]) (hf:∀{x0:TrayPress} {x1:TrayPress} {s:S} {r:Int×S},aF x0 x1 s=some r->zmi Try.prog f0 [.agg [.i x0.Side,.i x0.Time],.agg [.i x1.Side,.i x1.Time]] (Lo s) (.i r.1) (Lo r.2)) {n:Nat} {mz0:Nat} {st:(List TrayPress)×S} {r:Unit×((List TrayPress)×S)} (hM:zbm n aF mz0 st=some r):ziI Try.prog 67 [.ms p1 0 2 mz0 mz0,f0] ([(p1,.cells (st.1.map TrayPress.cells).flatten)]++Lo st.2) (.tup []) ([(p1,.cells (r.2.1.map TrayPress.cells).flatten)]++Lo r.2.2):=by
 have hnd0:∀s,(ids (Lo s)).Nodup:=fun s=>(List.nodup_append.1 (hnd s)).2.1
 refine zdv mixed Try.func67 rfl (by decide) Try.ntmps67 (by simp) (zhw (zdA zfG) (hk _ _)) (hnd st.2) ?pure ?cells fun H0 g hf_ hp=>?_
 case pure=>exact fun H _=>(show Go.AM.Pure _ from .tup _ zaN).inH
 case cells=>exact (zgz (zdz (zfk (fun x=>(zaf (.v _) (zaf (.v _) zaN)))) zgy) (hin _))
 rw [zaA]
 change wpA _ _ _ _ (Fr.of [(0,.ms p1 0 2 mz0 mz0),(1,f0)]) H0 g
 have hS:=St.startH (L:=([(p1,.cells (st.1.map TrayPress.cells).flatten)]++Lo st.2)) hf_ (ziZ (hnd st.2)) hp
 replace hS:St (fun i=>i<g/\i∉ids ([(p1,.cells (st.1.map TrayPress.cells).flatten)]++Lo st.2)) H0 ([(p1,.cells (st.1.map TrayPress.cells).flatten)]++Lo st.2) H0 g:=hS
 refine Rg 5 ?_
 refine Om (.ms p1 0 2 mz0 mz0) ?_
 refine Om (.ms p1 0 2 mz0 mz0) ?_
 refine zj6 (n:=mz0) (by decide) rfl zee ?_
 refine Om (f0) ?_
 obtain ⟨r1,hr1,hM⟩:=zap hM
 replace hS:St (fun i=>i<g/\i∉ids ([(p1,.cells (st.1.map TrayPress.cells).flatten)]++Lo st.2)) H0 ([(p1,.cells (st.1.map TrayPress.cells).flatten)]++Lo st.2) _ _:=hS
 have hndr1:=hS.nd_atS (ns:=[0]) (A:=[(p1,.cells (st.1.map TrayPress.cells).flatten)]) (A':=[(p1,.cells (r1.2.1.map TrayPress.cells).flatten)]) (.cons rfl .nil) (by decide)
 refine zht (bs:=[.ms p1 0 2 mz0 mz0,.i (mz0:Int),f0]) (A:=[(p1,.cells (st.1.map TrayPress.cells).flatten)]) (A':=[(p1,.cells (r1.2.1.map TrayPress.cells).flatten)]) (M:=Lo st.2) (M':=Lo r1.2.2) (L':=[(p1,.cells (r1.2.1.map TrayPress.cells).flatten)]) [0] (.inl rfl) hS (by decide) rfl rfl ((zei (Lo:=Lo) (p1:=p1) hk (fun s=>zhx (T':=Lo s) (hk _ _) hndr1) hin (aF:=aF) hF h0 hf hr1).le (.k (.k (.k .nil)))) (.cons rfl .nil) (hk _ _).ids rfl (by omega) fun H hS=>?_
 refine Ni ?_
 refine zfF (x:=.tup []) (f:=fun r=>.tup []) (fd:=fun r=>([(p1,.cells (r.2.1.map TrayPress.cells).flatten)]++Lo r.2.2)) (.inl rfl) ?_ (.refl _) (Option.some.inj hM) hS 0 rfl
 exact rfl
theorem zd2 {n:Nat} {r:Unit} (hM:zbi n=some r):zaS Try.prog 67 [.sl .no 2 (([]:List TrayPress).map TrayPress.cells),.fn (.func 68) [] []] (.tup []):=by
 refine zaF mixed Try.func67 rfl (by decide) Try.ntmps67 (by simp) ?pure fun H0 g hf=>?_
 case pure=>exact .tup _ zaN
 rw [zaA]
 change wpA _ _ _ _ (Fr.of [(0,.sl .no 2 (([]:List TrayPress).map TrayPress.cells)),(1,.fn (.func 68) [] [])]) H0 g
 have hS:=St.start hf
 refine Rg 5 ?_
 refine Om (.sl .no 2 (([]:List TrayPress).map TrayPress.cells)) ?_
 refine Om (.sl .no 2 (([]:List TrayPress).map TrayPress.cells)) ?_
 refine zcI (n:=([]:List TrayPress).length) (by decide) rfl (List.length_map _) zee ?_
 refine Om (.fn (.func 68) [] []) ?_
 obtain ⟨r1,hr1,hM⟩:=zap hM
 refine zbo (bs:=[.sl .no 2 (([]:List TrayPress).map TrayPress.cells),.i (([]:List TrayPress).length:Int),.fn (.func 68) [] []]) (by decide) rfl rfl ((zd4 hr1).le (.k (.k (.k .nil)))) ?_
 refine Ni ?_
 refine zbL (x:=.tup []) (f:=fun r=>.tup []) (.inl rfl) ?_ (.refl _) (Option.some.inj hM) hS
 exact rfl
theorem ziG {a0:TrayPress} {a1:TrayPress} {r:Int} (hM:zff a0 a1=some r):zaS Try.prog 68 [.agg [.i a0.Side,.i a0.Time],.agg [.i a1.Side,.i a1.Time]] (.i r):=by
 refine zaF mixed Try.func68 rfl (by decide) Try.ntmps68 (by simp) ?pure fun H0 g hf=>?_
 case pure=>exact .v _
 rw [zaA]
 change wpA _ _ _ _ (Fr.of [(0,.agg [.i a0.Side,.i a0.Time]),(1,.agg [.i a1.Side,.i a1.Time])]) H0 g
 have hS:=St.start hf
 refine Sq ?_
 refine Rg 3 ?_
 refine zeZ (v:=.agg [.i a0.Side,.i a0.Time]) (cs:=[.i a0.Side,.i a0.Time]) hS (by decide) rfl rfl (by omega) fun H hS=>?_
 refine zeZ (v:=.agg [.i a1.Side,.i a1.Time]) (cs:=[.i a1.Side,.i a1.Time]) hS (by decide) rfl rfl (by omega) fun H hS=>?_
 refine Oa (.i 0) ?_
 refine Ni ?_
 refine zcW (L':=[(g+1,.cells [.i a1.Side,.i a1.Time])]) 1 2 hS rfl rfl rfl fun H hS=>?_
 refine zcW (L':=[]) 0 3 hS rfl rfl rfl fun H hS=>?_
 refine Ws ?_
 refine Sq ?_
 refine Rg 6 ?_
 refine Of ([.i a0.Side,.i a0.Time]) zfq ?_
 refine Olp (.i a0.Time) zai zas ?_
 refine Of ([.i a1.Side,.i a1.Time]) zfq ?_
 refine Olp (.i a1.Time) zai zas ?_
 refine Oi (.i (w64 (a0.Time-a1.Time))) ?_
 refine Oa (.i (w64 (a0.Time-a1.Time))) ?_
 refine Ni ?_
 refine Ws ?_
 refine zbB ?_
 refine zbL (x:=.i (w64 (a0.Time-a1.Time))) (f:=fun r=>.i r) (.inr rfl) ?_ (.refl _) (Option.some.inj hM) hS
 exact (zaJ (zau (x:=.i (w64 (a0.Time-a1.Time))) rfl))
theorem zcH {p1 w10 w11 w12:Nat} (hnd:[p1,w10,w11,w12].Nodup) {a1:Int} {st:Carriage_} {r:Unit×Carriage_} (hM:zbO a1 st=some r):ziI Try.prog 69 [.ptr p1 0,.i a1] [(p1,.cells [.sl .no 2 (st.t.Records.map TrayRecord.cells),.i st.t.At,.i st.t.Way,.i st.t.Step,.sl .no 2 (st.t.Presses.map TrayPress.cells),.sl .no 2 (st.queue.map TrayPress.cells),.ms w10 0 1 (2*st.t.Records.length) (2*st.t.Records.length),.i st.now,.i st.at_.At,.i st.at_.Way,.i st.at_.Side,.sl (.id w11) 4 (st.run.spells.map Spell_.cells),.sl (.id w12) 2 (st.run.plays.map TrayPlay.cells),.i st.run.steps,.i st.run.end_]),(w10,.cells (st.pins.map cB).flatten),(w11,.row 160 st.run.spells.length),(w12,.row 71 st.run.plays.length)] (.tup []) [(p1,.cells [.sl .no 2 (r.2.t.Records.map TrayRecord.cells),.i r.2.t.At,.i r.2.t.Way,.i r.2.t.Step,.sl .no 2 (r.2.t.Presses.map TrayPress.cells),.sl .no 2 (r.2.queue.map TrayPress.cells),.ms w10 0 1 (2*r.2.t.Records.length) (2*r.2.t.Records.length),.i r.2.now,.i r.2.at_.At,.i r.2.at_.Way,.i r.2.at_.Side,.sl (.id w11) 4 (r.2.run.spells.map Spell_.cells),.sl (.id w12) 2 (r.2.run.plays.map TrayPlay.cells),.i r.2.run.steps,.i r.2.run.end_]),(w10,.cells (r.2.pins.map cB).flatten),(w11,.row 160 r.2.run.spells.length),(w12,.row 71 r.2.run.plays.length)]:=by
 refine zdv mixed Try.func69 rfl (by decide) Try.ntmps69 (by simp) (zdA (zdA (zhK (zhK zfG)))) hnd ?pure ?cells fun H0 g hf_ hp=>?_
 case pure=>exact fun H _=>(show Go.AM.Pure _ from .tup _ zaN).inH
 case cells=>exact (zgz (zdz (zaH (.inl (.inl (.sl _ _ (zaK (fun x=>(zaf (.v _) (zaf (.v _) zaN))))))) (zaH (.inl (.inl (.v _))) (zaH (.inl (.inl (.v _))) (zaH (.inl (.inl (.v _))) (zaH (.inl (.inl (.sl _ _ (zaK (fun x=>(zaf (.v _) (zaf (.v _) zaN))))))) (zaH (.inl (.inl (.sl _ _ (zaK (fun x=>(zaf (.v _) (zaf (.v _) zaN))))))) (zaH (.inr (.inr ⟨_,_,_,_,_,_,rfl,(List.mem_of_getElem? (i:=1) rfl)⟩)) (zaH (.inl (.inl (.v _))) (zaH (.inl (.inl (.v _))) (zaH (.inl (.inl (.v _))) (zaH (.inl (.inl (.v _))) (zaH (.inl (.inr ⟨_,_,_,_,_,rfl,(List.mem_of_getElem? (i:=2) rfl),zaK (fun x=>(zaf (.v _) (zaf (.v _) (zaf (.v _) (zaf (.v _) zaN)))))⟩)) (zaH (.inl (.inr ⟨_,_,_,_,_,rfl,(List.mem_of_getElem? (i:=3) rfl),zaK (fun x=>(zaf (.v _) (zaf (.v _) zaN)))⟩)) (zaH (.inl (.inl (.v _))) (zaH (.inl (.inl (.v _))) zk6))))))))))))))) (zdz (zfk (fun x=>(zaf (.v _) zaN))) (zhJ (zhJ zgy)))) zhs)
 rw [zaA]
 change wpA _ _ _ _ (Fr.of [(0,.ptr p1 0),(1,.i a1)]) H0 g
 have hS:=St.startH (L:=[(p1,.cells [.sl .no 2 (st.t.Records.map TrayRecord.cells),.i st.t.At,.i st.t.Way,.i st.t.Step,.sl .no 2 (st.t.Presses.map TrayPress.cells),.sl .no 2 (st.queue.map TrayPress.cells),.ms w10 0 1 (2*st.t.Records.length) (2*st.t.Records.length),.i st.now,.i st.at_.At,.i st.at_.Way,.i st.at_.Side,.sl (.id w11) 4 (st.run.spells.map Spell_.cells),.sl (.id w12) 2 (st.run.plays.map TrayPlay.cells),.i st.run.steps,.i st.run.end_]),(w10,.cells (st.pins.map cB).flatten),(w11,.row 160 st.run.spells.length),(w12,.row 71 st.run.plays.length)]) hf_ hnd hp
 replace hS:St (fun i=>i<g/\i∉ids [(p1,.cells [.sl .no 2 (st.t.Records.map TrayRecord.cells),.i st.t.At,.i st.t.Way,.i st.t.Step,.sl .no 2 (st.t.Presses.map TrayPress.cells),.sl .no 2 (st.queue.map TrayPress.cells),.ms w10 0 1 (2*st.t.Records.length) (2*st.t.Records.length),.i st.now,.i st.at_.At,.i st.at_.Way,.i st.at_.Side,.sl (.id w11) 4 (st.run.spells.map Spell_.cells),.sl (.id w12) 2 (st.run.plays.map TrayPlay.cells),.i st.run.steps,.i st.run.end_]),(w10,.cells (st.pins.map cB).flatten),(w11,.row 160 st.run.spells.length),(w12,.row 71 st.run.plays.length)]) H0 [(p1,.cells [.sl .no 2 (st.t.Records.map TrayRecord.cells),.i st.t.At,.i st.t.Way,.i st.t.Step,.sl .no 2 (st.t.Presses.map TrayPress.cells),.sl .no 2 (st.queue.map TrayPress.cells),.ms w10 0 1 (2*st.t.Records.length) (2*st.t.Records.length),.i st.now,.i st.at_.At,.i st.at_.Way,.i st.at_.Side,.sl (.id w11) 4 (st.run.spells.map Spell_.cells),.sl (.id w12) 2 (st.run.plays.map TrayPlay.cells),.i st.run.steps,.i st.run.end_]),(w10,.cells (st.pins.map cB).flatten),(w11,.row 160 st.run.spells.length),(w12,.row 71 st.run.plays.length)] H0 g:=hS
 refine Sq ?_
 refine Rg 6 ?_
 refine Om (.ptr p1 0) ?_
 refine Om (.i a1) ?_
 refine zbQ (by decide) rfl ?_
 refine zan (by decide) zd0 rfl ?_
 refine zan (by decide) zme rfl ?_
 refine zbC (v:=.i a1) (ns:=[.i a1]) (L':=[(p1,.cells [.sl .no 2 (st.t.Records.map TrayRecord.cells),.i st.t.At,.i st.t.Way,.i st.t.Step,.sl .no 2 (st.t.Presses.map TrayPress.cells),.sl .no 2 (st.queue.map TrayPress.cells),.ms w10 0 1 (2*st.t.Records.length) (2*st.t.Records.length),.i st.now,.i st.at_.At,.i st.at_.Way,.i a1,.sl (.id w11) 4 (st.run.spells.map Spell_.cells),.sl (.id w12) 2 (st.run.plays.map TrayPlay.cells),.i st.run.steps,.i st.run.end_]),(w10,.cells (st.pins.map cB).flatten),(w11,.row 160 st.run.spells.length),(w12,.row 71 st.run.plays.length)]) 0 hS rfl rfl .no rfl rfl zdO nlb rfl fun H hS=>?_
 refine Ni ?_
 refine Ws ?_
 have hS0:=hS
 refine zdb (n:=21) rfl (by kernel_rfl) ?_
 refine Om (.ptr p1 0) ?_
 refine Om (.ptr p1 0) ?_
 refine zbQ (by decide) rfl ?_
 refine zan (by decide) zd1 rfl ?_
 refine zan (by decide) zi4 rfl ?_
 refine zbJ (v:=.sl (.id w11) 4 (st.run.spells.map Spell_.cells)) 0 hS (by decide) rfl rfl (.st hS0 0 rfl (by omega)) (po zoh zpm) ?_
 refine Om (.ptr p1 0) ?_
 refine zbQ (by decide) rfl ?_
 refine zan (by decide) zd0 rfl ?_
 refine zbJ (v:=.agg [.i st.at_.At,.i st.at_.Way,.i a1]) 0 hS (by decide) rfl rfl (.st hS0 0 rfl (by omega)) (pg znt) ?_
 refine Om (.ptr p1 0) ?_
 refine zbQ (by decide) rfl ?_
 refine zan (by decide) zdZ rfl ?_
 refine zbJ (v:=.i st.now) 0 hS (by decide) rfl rfl (.st hS0 0 rfl (by omega)) (po zai zas) ?_
 refine zd3 (cs:=[.i st.at_.At,.i st.at_.Way,.i a1,.i st.now]) (by decide) zmb zoj rfl ?_
 refine zcz (es:=[[.i st.at_.At,.i st.at_.Way,.i a1,.i st.now]]) hS (by decide) znq znp rfl znr rfl (by decide) (by omega) fun H hS=>?_
 obtain ⟨l1,hl1,hM⟩:=zap hM
 refine zg0 (xs:=st.run.spells) (ys:=([(⟨(⟨st.at_.At,st.at_.Way,a1⟩:TrayStand),st.now⟩:Spell_)]:List Spell_)) (zs:=l1) (f:=Spell_.cells) (L':=[(g+6+15,.row 160 1),(p1,.cells [.sl .no 2 (st.t.Records.map TrayRecord.cells),.i st.t.At,.i st.t.Way,.i st.t.Step,.sl .no 2 (st.t.Presses.map TrayPress.cells),.sl .no 2 (st.queue.map TrayPress.cells),.ms w10 0 1 (2*st.t.Records.length) (2*st.t.Records.length),.i st.now,.i st.at_.At,.i st.at_.Way,.i a1,.sl (.id w11) 4 (st.run.spells.map Spell_.cells),.sl (.id w12) 2 (st.run.plays.map TrayPlay.cells),.i st.run.steps,.i st.run.end_]),(w10,.cells (st.pins.map cB).flatten),(w11,.row 160 l1.length),(w12,.row 71 st.run.plays.length)]) 3 hS (by decide) rfl rfl rfl rfl (.st hS0 2 rfl (by omega)) znq znp znr hl1 rfl fun H hS=>?_
 refine zbQ (by decide) rfl ?_
 refine zan (by decide) zd1 rfl ?_
 refine zan (by decide) zi4 rfl ?_
 refine zbC (v:=.sl (.id w11) 4 (l1.map Spell_.cells)) (ns:=[.sl (.id w11) 4 (l1.map Spell_.cells)]) (L':=[(g+6+15,.row 160 1),(p1,.cells [.sl .no 2 (st.t.Records.map TrayRecord.cells),.i st.t.At,.i st.t.Way,.i st.t.Step,.sl .no 2 (st.t.Presses.map TrayPress.cells),.sl .no 2 (st.queue.map TrayPress.cells),.ms w10 0 1 (2*st.t.Records.length) (2*st.t.Records.length),.i st.now,.i st.at_.At,.i st.at_.Way,.i a1,.sl (.id w11) 4 (l1.map Spell_.cells),.sl (.id w12) 2 (st.run.plays.map TrayPlay.cells),.i st.run.steps,.i st.run.end_]),(w10,.cells (st.pins.map cB).flatten),(w11,.row 160 l1.length),(w12,.row 71 st.run.plays.length)]) 1 hS rfl rfl (.st hS0 0 rfl (by omega)) rfl rfl zoi nlb rfl fun H hS=>?_
 refine Ni ?_
 refine zfF (x:=.tup []) (f:=fun r=>.tup []) (fd:=fun r=>[(p1,.cells [.sl .no 2 (r.2.t.Records.map TrayRecord.cells),.i r.2.t.At,.i r.2.t.Way,.i r.2.t.Step,.sl .no 2 (r.2.t.Presses.map TrayPress.cells),.sl .no 2 (r.2.queue.map TrayPress.cells),.ms w10 0 1 (2*r.2.t.Records.length) (2*r.2.t.Records.length),.i r.2.now,.i r.2.at_.At,.i r.2.at_.Way,.i r.2.at_.Side,.sl (.id w11) 4 (r.2.run.spells.map Spell_.cells),.sl (.id w12) 2 (r.2.run.plays.map TrayPlay.cells),.i r.2.run.steps,.i r.2.run.end_]),(w10,.cells (r.2.pins.map cB).flatten),(w11,.row 160 r.2.run.spells.length),(w12,.row 71 r.2.run.plays.length)]) (.inl rfl) ?_ (.refl _) (Option.some.inj hM) hS 1 rfl
 exact rfl
theorem zga {p1 w10 w11 w12:Nat} (hnd:[p1,w10,w11,w12].Nodup) {n:Nat} {st:Carriage_} {r:Unit×Carriage_} (hM:zeh n st=some r):ziI Try.prog 91 [.ptr p1 0] [(p1,.cells [.sl .no 2 (st.t.Records.map TrayRecord.cells),.i st.t.At,.i st.t.Way,.i st.t.Step,.sl .no 2 (st.t.Presses.map TrayPress.cells),.sl .no 2 (st.queue.map TrayPress.cells),.ms w10 0 1 (2*st.t.Records.length) (2*st.t.Records.length),.i st.now,.i st.at_.At,.i st.at_.Way,.i st.at_.Side,.sl (.id w11) 4 (st.run.spells.map Spell_.cells),.sl (.id w12) 2 (st.run.plays.map TrayPlay.cells),.i st.run.steps,.i st.run.end_]),(w10,.cells (st.pins.map cB).flatten),(w11,.row 160 st.run.spells.length),(w12,.row 71 st.run.plays.length)] (.tup []) [(p1,.cells [.sl .no 2 (r.2.t.Records.map TrayRecord.cells),.i r.2.t.At,.i r.2.t.Way,.i r.2.t.Step,.sl .no 2 (r.2.t.Presses.map TrayPress.cells),.sl .no 2 (r.2.queue.map TrayPress.cells),.ms w10 0 1 (2*r.2.t.Records.length) (2*r.2.t.Records.length),.i r.2.now,.i r.2.at_.At,.i r.2.at_.Way,.i r.2.at_.Side,.sl (.id w11) 4 (r.2.run.spells.map Spell_.cells),.sl (.id w12) 2 (r.2.run.plays.map TrayPlay.cells),.i r.2.run.steps,.i r.2.run.end_]),(w10,.cells (r.2.pins.map cB).flatten),(w11,.row 160 r.2.run.spells.length),(w12,.row 71 r.2.run.plays.length)]:=by
 refine zdv mixed Try.func91 rfl (by decide) Try.ntmps91 (by simp) (zdA (zdA (zhK (zhK zfG)))) hnd ?pure ?cells fun H0 g hf_ hp=>?_
 case pure=>exact fun H _=>(show Go.AM.Pure _ from .tup _ zaN).inH
 case cells=>exact (zgz (zdz (zaH (.inl (.inl (.sl _ _ (zaK (fun x=>(zaf (.v _) (zaf (.v _) zaN))))))) (zaH (.inl (.inl (.v _))) (zaH (.inl (.inl (.v _))) (zaH (.inl (.inl (.v _))) (zaH (.inl (.inl (.sl _ _ (zaK (fun x=>(zaf (.v _) (zaf (.v _) zaN))))))) (zaH (.inl (.inl (.sl _ _ (zaK (fun x=>(zaf (.v _) (zaf (.v _) zaN))))))) (zaH (.inr (.inr ⟨_,_,_,_,_,_,rfl,(List.mem_of_getElem? (i:=1) rfl)⟩)) (zaH (.inl (.inl (.v _))) (zaH (.inl (.inl (.v _))) (zaH (.inl (.inl (.v _))) (zaH (.inl (.inl (.v _))) (zaH (.inl (.inr ⟨_,_,_,_,_,rfl,(List.mem_of_getElem? (i:=2) rfl),zaK (fun x=>(zaf (.v _) (zaf (.v _) (zaf (.v _) (zaf (.v _) zaN)))))⟩)) (zaH (.inl (.inr ⟨_,_,_,_,_,rfl,(List.mem_of_getElem? (i:=3) rfl),zaK (fun x=>(zaf (.v _) (zaf (.v _) zaN)))⟩)) (zaH (.inl (.inl (.v _))) (zaH (.inl (.inl (.v _))) zk6))))))))))))))) (zdz (zfk (fun x=>(zaf (.v _) zaN))) (zhJ (zhJ zgy)))) zhs)
 rw [zaA]
 change wpA _ _ _ _ (Fr.of [(0,.ptr p1 0)]) H0 g
 have hS:=St.startH (L:=[(p1,.cells [.sl .no 2 (st.t.Records.map TrayRecord.cells),.i st.t.At,.i st.t.Way,.i st.t.Step,.sl .no 2 (st.t.Presses.map TrayPress.cells),.sl .no 2 (st.queue.map TrayPress.cells),.ms w10 0 1 (2*st.t.Records.length) (2*st.t.Records.length),.i st.now,.i st.at_.At,.i st.at_.Way,.i st.at_.Side,.sl (.id w11) 4 (st.run.spells.map Spell_.cells),.sl (.id w12) 2 (st.run.plays.map TrayPlay.cells),.i st.run.steps,.i st.run.end_]),(w10,.cells (st.pins.map cB).flatten),(w11,.row 160 st.run.spells.length),(w12,.row 71 st.run.plays.length)]) hf_ hnd hp
 replace hS:St (fun i=>i<g/\i∉ids [(p1,.cells [.sl .no 2 (st.t.Records.map TrayRecord.cells),.i st.t.At,.i st.t.Way,.i st.t.Step,.sl .no 2 (st.t.Presses.map TrayPress.cells),.sl .no 2 (st.queue.map TrayPress.cells),.ms w10 0 1 (2*st.t.Records.length) (2*st.t.Records.length),.i st.now,.i st.at_.At,.i st.at_.Way,.i st.at_.Side,.sl (.id w11) 4 (st.run.spells.map Spell_.cells),.sl (.id w12) 2 (st.run.plays.map TrayPlay.cells),.i st.run.steps,.i st.run.end_]),(w10,.cells (st.pins.map cB).flatten),(w11,.row 160 st.run.spells.length),(w12,.row 71 st.run.plays.length)]) H0 [(p1,.cells [.sl .no 2 (st.t.Records.map TrayRecord.cells),.i st.t.At,.i st.t.Way,.i st.t.Step,.sl .no 2 (st.t.Presses.map TrayPress.cells),.sl .no 2 (st.queue.map TrayPress.cells),.ms w10 0 1 (2*st.t.Records.length) (2*st.t.Records.length),.i st.now,.i st.at_.At,.i st.at_.Way,.i st.at_.Side,.sl (.id w11) 4 (st.run.spells.map Spell_.cells),.sl (.id w12) 2 (st.run.plays.map TrayPlay.cells),.i st.run.steps,.i st.run.end_]),(w10,.cells (st.pins.map cB).flatten),(w11,.row 160 st.run.spells.length),(w12,.row 71 st.run.plays.length)] H0 g:=hS
 refine zaB ?_
 refine zcx (V:=(List TrayPress)×(List Bool)) (fun v=>[(0,.ptr p1 0)]) (fun v m2 H' g'=>St (fun i=>i<g/\i∉ids [(p1,.cells [.sl .no 2 (st.t.Records.map TrayRecord.cells),.i st.t.At,.i st.t.Way,.i st.t.Step,.sl .no 2 (st.t.Presses.map TrayPress.cells),.sl .no 2 (st.queue.map TrayPress.cells),.ms w10 0 1 (2*st.t.Records.length) (2*st.t.Records.length),.i st.now,.i st.at_.At,.i st.at_.Way,.i st.at_.Side,.sl (.id w11) 4 (st.run.spells.map Spell_.cells),.sl (.id w12) 2 (st.run.plays.map TrayPlay.cells),.i st.run.steps,.i st.run.end_]),(w10,.cells (st.pins.map cB).flatten),(w11,.row 160 st.run.spells.length),(w12,.row 71 st.run.plays.length)]) H0 [(p1,.cells [.sl .no 2 (st.t.Records.map TrayRecord.cells),.i st.t.At,.i st.t.Way,.i st.t.Step,.sl .no 2 (st.t.Presses.map TrayPress.cells),.sl .no 2 (v.1.map TrayPress.cells),.ms w10 0 1 (2*st.t.Records.length) (2*st.t.Records.length),.i st.now,.i st.at_.At,.i st.at_.Way,.i st.at_.Side,.sl (.id w11) 4 (st.run.spells.map Spell_.cells),.sl (.id w12) 2 (st.run.plays.map TrayPlay.cells),.i st.run.steps,.i st.run.end_]),(w10,.cells (v.2.map cB).flatten),(w11,.row 160 st.run.spells.length),(w12,.row 71 st.run.plays.length)] H' g'/\za6 st m2 v.1 v.2=some r) (n:=n) (st.queue,st.pins) (.k .nil) ⟨(hS.keep [true,true,true,true] rfl).up (by omega),hM⟩ ?_
 rintro ⟨v1,v2⟩ m2 H g2 ⟨hS,hM⟩
 obtain _ | m2:=m2
 ·exact nomatch (show none=some _ from hM)
 change wpA _ _ _ _ (Fr.of [(0,.ptr p1 0)]) _ _
 replace hS:St (fun i=>i<g/\i∉ids [(p1,.cells [.sl .no 2 (st.t.Records.map TrayRecord.cells),.i st.t.At,.i st.t.Way,.i st.t.Step,.sl .no 2 (st.t.Presses.map TrayPress.cells),.sl .no 2 (st.queue.map TrayPress.cells),.ms w10 0 1 (2*st.t.Records.length) (2*st.t.Records.length),.i st.now,.i st.at_.At,.i st.at_.Way,.i st.at_.Side,.sl (.id w11) 4 (st.run.spells.map Spell_.cells),.sl (.id w12) 2 (st.run.plays.map TrayPlay.cells),.i st.run.steps,.i st.run.end_]),(w10,.cells (st.pins.map cB).flatten),(w11,.row 160 st.run.spells.length),(w12,.row 71 st.run.plays.length)]) H0 [(p1,.cells [.sl .no 2 (st.t.Records.map TrayRecord.cells),.i st.t.At,.i st.t.Way,.i st.t.Step,.sl .no 2 (st.t.Presses.map TrayPress.cells),.sl .no 2 (v1.map TrayPress.cells),.ms w10 0 1 (2*st.t.Records.length) (2*st.t.Records.length),.i st.now,.i st.at_.At,.i st.at_.Way,.i st.at_.Side,.sl (.id w11) 4 (st.run.spells.map Spell_.cells),.sl (.id w12) 2 (st.run.plays.map TrayPlay.cells),.i st.run.steps,.i st.run.end_]),(w10,.cells (v2.map cB).flatten),(w11,.row 160 st.run.spells.length),(w12,.row 71 st.run.plays.length)] H g2:=hS
 replace hM:zde st (za6 st m2) v1 v2=some r:=hM
 refine Sq ?_
 refine zaY (J:=Bool) (fun j=>[(0,.ptr p1 0),(21,.b j)]) (fun j H' g'=>St (fun i=>i<g/\i∉ids [(p1,.cells [.sl .no 2 (st.t.Records.map TrayRecord.cells),.i st.t.At,.i st.t.Way,.i st.t.Step,.sl .no 2 (st.t.Presses.map TrayPress.cells),.sl .no 2 (st.queue.map TrayPress.cells),.ms w10 0 1 (2*st.t.Records.length) (2*st.t.Records.length),.i st.now,.i st.at_.At,.i st.at_.Way,.i st.at_.Side,.sl (.id w11) 4 (st.run.spells.map Spell_.cells),.sl (.id w12) 2 (st.run.plays.map TrayPlay.cells),.i st.run.steps,.i st.run.end_]),(w10,.cells (st.pins.map cB).flatten),(w11,.row 160 st.run.spells.length),(w12,.row 71 st.run.plays.length)]) H0 [(p1,.cells [.sl .no 2 (st.t.Records.map TrayRecord.cells),.i st.t.At,.i st.t.Way,.i st.t.Step,.sl .no 2 (st.t.Presses.map TrayPress.cells),.sl .no 2 (v1.map TrayPress.cells),.ms w10 0 1 (2*st.t.Records.length) (2*st.t.Records.length),.i st.now,.i st.at_.At,.i st.at_.Way,.i st.at_.Side,.sl (.id w11) 4 (st.run.spells.map Spell_.cells),.sl (.id w12) 2 (st.run.plays.map TrayPlay.cells),.i st.run.steps,.i st.run.end_]),(w10,.cells (v2.map cB).flatten),(w11,.row 160 st.run.spells.length),(w12,.row 71 st.run.plays.length)] H' g'/\zcn (za6 st m2) st v1 v2 j=some r) ?_ ?_
 ·rintro v3 H g3 ⟨hS,hM⟩
  change wpA _ _ _ _ (Fr.of [(0,.ptr p1 0),(21,.b v3)]) _ _
  replace hS:St (fun i=>i<g/\i∉ids [(p1,.cells [.sl .no 2 (st.t.Records.map TrayRecord.cells),.i st.t.At,.i st.t.Way,.i st.t.Step,.sl .no 2 (st.t.Presses.map TrayPress.cells),.sl .no 2 (st.queue.map TrayPress.cells),.ms w10 0 1 (2*st.t.Records.length) (2*st.t.Records.length),.i st.now,.i st.at_.At,.i st.at_.Way,.i st.at_.Side,.sl (.id w11) 4 (st.run.spells.map Spell_.cells),.sl (.id w12) 2 (st.run.plays.map TrayPlay.cells),.i st.run.steps,.i st.run.end_]),(w10,.cells (st.pins.map cB).flatten),(w11,.row 160 st.run.spells.length),(w12,.row 71 st.run.plays.length)]) H0 [(p1,.cells [.sl .no 2 (st.t.Records.map TrayRecord.cells),.i st.t.At,.i st.t.Way,.i st.t.Step,.sl .no 2 (st.t.Presses.map TrayPress.cells),.sl .no 2 (v1.map TrayPress.cells),.ms w10 0 1 (2*st.t.Records.length) (2*st.t.Records.length),.i st.now,.i st.at_.At,.i st.at_.Way,.i st.at_.Side,.sl (.id w11) 4 (st.run.spells.map Spell_.cells),.sl (.id w12) 2 (st.run.plays.map TrayPlay.cells),.i st.run.steps,.i st.run.end_]),(w10,.cells (v2.map cB).flatten),(w11,.row 160 st.run.spells.length),(w12,.row 71 st.run.plays.length)] H g3:=hS
  replace hM:zcn (za6 st m2) st v1 v2 v3=some r:=hM
  rcases bft v3 with hb4 | hb4
  ·replace hM:=ifT hM hb4
   refine Ct hb4 ?_
   refine zaI ?_
   refine Ws ?_
   refine zaB ?_
   refine Sq ?_
   have hS0:=hS
   refine zdb (n:=13) rfl (by kernel_rfl) ?_
   refine Om (.ptr p1 0) ?_
   refine zbQ (by decide) rfl ?_
   refine zan (by decide) zgq rfl ?_
   refine zbJ (v:=.ms w10 0 1 (2*st.t.Records.length) (2*st.t.Records.length)) 0 hS (by decide) rfl rfl (.st hS0 0 rfl (by omega)) (po zhf zhV) ?_
   refine Om (.ptr p1 0) ?_
   refine zbQ (by decide) rfl ?_
   refine zan (by decide) zdY rfl ?_
   refine zbJ (v:=.sl .no 2 (v1.map TrayPress.cells)) 0 hS (by decide) rfl rfl (.st hS0 0 rfl (by omega)) (po zcJ zdq) ?_
   obtain ⟨x5,hx5,hM⟩:=zap hM
   refine zbr (xs:=v1) (f:=TrayPress.cells) (z:=0) (u:=x5) (by decide) rfl rfl zdP hx5 ?_
   refine Of ([.i x5.Side,.i x5.Time]) zix ?_
   refine Olp (.i x5.Side) zai zas ?_
   obtain ⟨x6,hx6,hM⟩:=zap hM
   refine zbv (xs:=v2) (z:=x5.Side) (u:=x6) (by decide) rfl (zbw hx6) rfl zgo (zaz hx6) ?_
   refine zen (f:=cB) (k:=1) (xs:=v2) (z:=x5.Side) (u:=x6) (w:=true) (v:=.b true) (L':=[(p1,.cells [.sl .no 2 (st.t.Records.map TrayRecord.cells),.i st.t.At,.i st.t.Way,.i st.t.Step,.sl .no 2 (st.t.Presses.map TrayPress.cells),.sl .no 2 (v1.map TrayPress.cells),.ms w10 0 1 (2*st.t.Records.length) (2*st.t.Records.length),.i st.now,.i st.at_.At,.i st.at_.Way,.i st.at_.Side,.sl (.id w11) 4 (st.run.spells.map Spell_.cells),.sl (.id w12) 2 (st.run.plays.map TrayPlay.cells),.i st.run.steps,.i st.run.end_]),(w10,.cells ((v2.set (Int.toNat x5.Side) true).map cB).flatten),(w11,.row 160 st.run.spells.length),(w12,.row 71 st.run.plays.length)]) 1 hS rfl rfl (zaz hx6) (.st hS0 1 rfl (by omega)) (fun _=>rfl) rfl rfl zne rfl fun H hS=>?_
   refine Ni ?_
   refine Ws ?_
   refine Rg 9 ?_
   refine Om (.ptr p1 0) ?_
   refine Om (.ptr p1 0) ?_
   refine zbQ (by decide) rfl ?_
   refine zan (by decide) zdY rfl ?_
   refine zbJ (v:=.sl .no 2 (v1.map TrayPress.cells)) 0 hS (by decide) rfl rfl .no (po zcJ zdq) ?_
   obtain ⟨c7,hc7,hM⟩:=zap hM
   refine zmU (xs:=v1) (ys:=c7) (f:=TrayPress.cells) (p:=1) (q:=(v1.length:Int)) (by decide) rfl zdP (.inr rfl) (.inl ⟨rfl,rfl⟩) hc7 ?_
   refine zbQ (by decide) rfl ?_
   refine zan (by decide) zdY rfl ?_
   refine zbC (v:=.sl .no 2 (c7.map TrayPress.cells)) (ns:=[.sl .no 2 (c7.map TrayPress.cells)]) (L':=[(p1,.cells [.sl .no 2 (st.t.Records.map TrayRecord.cells),.i st.t.At,.i st.t.Way,.i st.t.Step,.sl .no 2 (st.t.Presses.map TrayPress.cells),.sl .no 2 (c7.map TrayPress.cells),.ms w10 0 1 (2*st.t.Records.length) (2*st.t.Records.length),.i st.now,.i st.at_.At,.i st.at_.Way,.i st.at_.Side,.sl (.id w11) 4 (st.run.spells.map Spell_.cells),.sl (.id w12) 2 (st.run.plays.map TrayPlay.cells),.i st.run.steps,.i st.run.end_]),(w10,.cells ((v2.set (Int.toNat x5.Side) true).map cB).flatten),(w11,.row 160 st.run.spells.length),(w12,.row 71 st.run.plays.length)]) 0 hS rfl rfl .no rfl rfl zlh nlb rfl fun H hS=>?_
   refine Ni ?_
   refine zak ?_
   exact zbY (c7,(v2.set (Int.toNat x5.Side) true)) (Nat.lt_succ_self _) (.k .nil) ⟨(hS.keep [true,true,true,true] rfl).up (by omega),hM⟩
  ·replace hM:=ifF hM hb4
   refine Cf hb4 ?_
   refine zcw ?_
   refine zax ?_
   refine zaq ?_
   refine zaG ?_
   refine zfF (x:=.tup []) (f:=fun r=>.tup []) (fd:=fun r=>[(p1,.cells [.sl .no 2 (r.2.t.Records.map TrayRecord.cells),.i r.2.t.At,.i r.2.t.Way,.i r.2.t.Step,.sl .no 2 (r.2.t.Presses.map TrayPress.cells),.sl .no 2 (r.2.queue.map TrayPress.cells),.ms w10 0 1 (2*r.2.t.Records.length) (2*r.2.t.Records.length),.i r.2.now,.i r.2.at_.At,.i r.2.at_.Way,.i r.2.at_.Side,.sl (.id w11) 4 (r.2.run.spells.map Spell_.cells),.sl (.id w12) 2 (r.2.run.plays.map TrayPlay.cells),.i r.2.run.steps,.i r.2.run.end_]),(w10,.cells (r.2.pins.map cB).flatten),(w11,.row 160 r.2.run.spells.length),(w12,.row 71 r.2.run.plays.length)]) (.inl rfl) ?_ (.refl _) (Option.some.inj hM) hS 0 rfl
   exact rfl
 ·have hS0:=hS
  refine zdb (n:=20) rfl (by kernel_rfl) ?_
  refine Om (.ptr p1 0) ?_
  refine zbQ (by decide) rfl ?_
  refine zan (by decide) zdY rfl ?_
  refine zbJ (v:=.sl .no 2 (v1.map TrayPress.cells)) 0 hS (by decide) rfl rfl (.st hS0 0 rfl (by omega)) (po zcJ zdq) ?_
  refine zcI (n:=v1.length) (by decide) rfl (List.length_map _) zee ?_
  refine Oi (.b (decide ((v1.length:Int)>0))) ?_
  refine Om (.b (decide ((v1.length:Int)>0))) ?_
  rcases bft (decide ((v1.length:Int)>0)) with hb8 | hb8
  ·replace hM:=ifT hM hb8
   refine Oy (want:=true) hb8 ?_
   refine Om (.ptr p1 0) ?_
   refine Oy (want:=true) hb8 ?_
   refine zbQ (by decide) rfl ?_
   refine Oy (want:=true) hb8 ?_
   refine zan (by decide) zdY rfl ?_
   refine Oy (want:=true) hb8 ?_
   refine zbJ (v:=.sl .no 2 (v1.map TrayPress.cells)) 0 hS (by decide) rfl rfl (.st hS0 0 rfl (by omega)) (po zcJ zdq) ?_
   refine Oy (want:=true) hb8 ?_
   obtain ⟨x9,hx9,hM⟩:=zap hM
   refine zbr (xs:=v1) (f:=TrayPress.cells) (z:=0) (u:=x9) (by decide) rfl rfl zdP hx9 ?_
   refine Oy (want:=true) hb8 ?_
   refine Of ([.i x9.Side,.i x9.Time]) zfq ?_
   refine Oy (want:=true) hb8 ?_
   refine Olp (.i x9.Time) zai zas ?_
   refine Oy (want:=true) hb8 ?_
   refine Om (.ptr p1 0) ?_
   refine Oy (want:=true) hb8 ?_
   refine zbQ (by decide) rfl ?_
   refine Oy (want:=true) hb8 ?_
   refine zan (by decide) zdZ rfl ?_
   refine Oy (want:=true) hb8 ?_
   refine zbJ (v:=.i st.now) 0 hS (by decide) rfl rfl (.st hS0 0 rfl (by omega)) (po zai zas) ?_
   refine Oy (want:=true) hb8 ?_
   refine Oi (.b (decide (x9.Time<=st.now))) ?_
   refine Pt (.b (decide (x9.Time<=st.now))) hb8 ?_
   refine Ni ?_
   exact zal (decide (x9.Time<=st.now)) (.k (.k .nil)) ⟨(hS.keep [true,true,true,true] rfl).up (by omega),hM⟩
  ·replace hM:=ifF hM hb8
   refine On (want:=true) hb8 ?_
   refine On (want:=true) hb8 ?_
   refine On (want:=true) hb8 ?_
   refine On (want:=true) hb8 ?_
   refine On (want:=true) hb8 ?_
   refine On (want:=true) hb8 ?_
   refine On (want:=true) hb8 ?_
   refine On (want:=true) hb8 ?_
   refine On (want:=true) hb8 ?_
   refine On (want:=true) hb8 ?_
   refine On (want:=true) hb8 ?_
   refine On (want:=true) hb8 ?_
   refine Pf (.b false) hb8 ?_
   refine Ni ?_
   exact zal false (.k (.k .nil)) ⟨(hS.keep [true,true,true,true] rfl).up (by omega),hM⟩
theorem zgR {n:Nat} {a0:List Bool} {a1:Bool} {r:Int} (hM:zdV n a0 a1=some r):zaS Try.prog 110 [.sl .no 1 (a0.map cB),.b a1] (.i r):=by
 refine zaF mixed Try.func110 rfl (by decide) Try.ntmps110 (by simp) ?pure fun H0 g hf=>?_
 case pure=>exact .v _
 rw [zaA]
 change wpA _ _ _ _ (Fr.of [(0,.sl .no 1 (a0.map cB)),(1,.b a1)]) H0 g
 have hS:=St.start hf
 refine Sq ?_
 refine Rg 1 ?_
 refine Oa (.i 0) ?_
 refine Ni ?_
 refine Ws ?_
 refine zaY (J:=Unit) (fun j=>[]) (fun j H' g'=>St (·<g) H0 [] H' g'/\zc7=some r) ?_ ?_
 ·rintro _ H g1 ⟨hS,hM⟩
  change wpA _ _ _ _ (Fr.of []) _ _
  replace hS:St (·<g) H0 [] H g1:=hS
  replace hM:zc7=some r:=hM
  refine Sq ?_
  refine Rg 1 ?_
  refine Oa (.i (-1)) ?_
  refine Ni ?_
  refine Ws ?_
  refine zbB ?_
  refine zbL (x:=.i (-1)) (f:=fun r=>.i r) (.inr rfl) ?_ (.refl _) (Option.some.inj hM) hS
  exact (zaJ (zau (x:=.i (-1)) rfl))
 ·refine Sq ?_
  refine Rg 3 ?_
  refine Om (.sl .no 1 (a0.map cB)) ?_
  refine zcI (n:=a0.length) (by decide) rfl (List.length_map _) zns ?_
  refine Om (.i 0) ?_
  refine Ni ?_
  refine Ws ?_
  refine zaB ?_
  refine zcx (V:=Int) (fun v=>[(0,.sl .no 1 (a0.map cB)),(1,.b a1),(7,.i (a0.length:Int)),(8,.i v)]) (fun v m2 H' g'=>St (·<g) H0 [] H' g'/\zbM a0 a1 m2 v=some r) (n:=n) 0 (.k (.k (.k (.k .nil)))) ⟨(hS.keep [] rfl).up (by omega),hM⟩ ?_
  rintro v1 m2 H g2 ⟨hS,hM⟩
  obtain _ | m2:=m2
  ·exact nomatch (show none=some _ from hM)
  change wpA _ _ _ _ (Fr.of [(0,.sl .no 1 (a0.map cB)),(1,.b a1),(7,.i (a0.length:Int)),(8,.i v1)]) _ _
  replace hS:St (·<g) H0 [] H g2:=hS
  replace hM:zcS a0 a1 (zbM a0 a1 m2) v1=some r:=hM
  refine Sq ?_
  refine Rg 1 ?_
  refine Oi (.b (decide (v1<(a0.length:Int)))) ?_
  refine Ni ?_
  refine Ws ?_
  refine Sq ?_
  rcases bft (decide (v1<(a0.length:Int))) with hb2 | hb2
  ·replace hM:=ifT hM hb2
   refine Ct hb2 ?_
   refine zaI ?_
   refine Ws ?_
   refine Sq ?_
   refine zaB ?_
   refine Sq ?_
   refine Rg 2 ?_
   refine Om (.i v1) ?_
   refine Oa (.i v1) ?_
   refine Ni ?_
   refine Ws ?_
   refine Sq ?_
   refine Rg 6 ?_
   refine Om (.b a1) ?_
   refine Om (.sl .no 1 (a0.map cB)) ?_
   refine Om (.i v1) ?_
   obtain ⟨x3,hx3,hM⟩:=zap hM
   refine zbr (xs:=a0) (f:=cB) (z:=v1) (u:=x3) (by decide) rfl rfl zgo hx3 ?_
   refine Olp (.b x3) znd zoN ?_
   refine ztf (m:=a1) (n:=x3) (by decide) rfl rfl zoa ?_
   refine Ni ?_
   refine Ws ?_
   rcases bft (a1==x3) with hb4 | hb4
   ·replace hM:=ifT hM hb4
    refine Ct hb4 ?_
    refine Sq ?_
    refine Rg 2 ?_
    refine Om (.i v1) ?_
    refine Oa (.i v1) ?_
    refine Ni ?_
    refine Ws ?_
    refine zbB ?_
    refine zcm ?_
    refine zay ?_
    refine zdm ?_
    refine zcm ?_
    refine zej ?_
    refine zbL (x:=.i v1) (f:=fun r=>.i r) (.inr rfl) ?_ (.refl _) (Option.some.inj hM) hS
    exact (zaJ (zau (x:=.i v1) rfl))
   ·replace hM:=ifF hM hb4
    refine Cf hb4 ?_
    refine zaI ?_
    refine zak ?_
    refine Ws ?_
    refine Rg 2 ?_
    refine Oi (.i (w64 (v1+1))) ?_
    refine Om (.i (w64 (v1+1))) ?_
    refine Ni ?_
    exact zbY (w64 (v1+1)) (Nat.lt_succ_self _) (.k (.k (.k (.k .nil)))) ⟨(hS.keep [] rfl).up (by omega),hM⟩
  ·replace hM:=ifF hM hb2
   refine Cf hb2 ?_
   refine zcw ?_
   refine zax ?_
   refine zaq ?_
   refine zaG ?_
   exact zal () .nil ⟨(hS.keep [] rfl).up (by omega),hM⟩
theorem zfK {n:Nat} {a0:List Bool} {a1:Bool} {r:Bool} (hM:zc8 n a0 a1=some r):zaS Try.prog 92 [.sl .no 1 (a0.map cB),.b a1] (.b r):=by
 refine zaF mixed Try.func92 rfl (by decide) Try.ntmps92 (by simp) ?pure fun H0 g hf=>?_
 case pure=>exact .v _
 rw [zaA]
 change wpA _ _ _ _ (Fr.of [(0,.sl .no 1 (a0.map cB)),(1,.b a1)]) H0 g
 have hS:=St.start hf
 refine Sq ?_
 refine Rg 1 ?_
 refine Oa (.b false) ?_
 refine Ni ?_
 refine Ws ?_
 refine Sq ?_
 refine Rg 5 ?_
 refine Om (.sl .no 1 (a0.map cB)) ?_
 refine Om (.b a1) ?_
 obtain ⟨r1,hr1,hM⟩:=zap hM
 refine zbo (bs:=[.sl .no 1 (a0.map cB),.b a1]) (by decide) rfl rfl ((zgR hr1).le (.k (.k .nil))) ?_
 refine Oi (.b (decide (r1≥0))) ?_
 refine Oa (.b (decide (r1≥0))) ?_
 refine Ni ?_
 refine zfX [(4,.b (decide (r1≥0)))] (.k .nil) ?_
 refine zbB ?_
 refine zbL (x:=.b (decide (r1≥0))) (f:=fun r=>.b r) (.inr rfl) ?_ (.refl _) (Option.some.inj hM) hS
 exact (zaJ (zau (x:=.b (decide (r1≥0))) rfl))
theorem zkQ {a0:Tray} {a1:Int} {r:Int} (hM:zg9 a0 a1=some r):zaS Try.prog 93 [.agg (Tray.cells a0),.i a1] (.i r):=by
 refine zaF mixed Try.func93 rfl (by decide) Try.ntmps93 (by simp) ?pure fun H0 g hf=>?_
 case pure=>exact .v _
 rw [zaA]
 change wpA _ _ _ _ (Fr.of [(0,.agg (Tray.cells a0)),(1,.i a1)]) H0 g
 have hS:=St.start hf
 refine Sq ?_
 refine Rg 2 ?_
 refine zeZ (v:=.agg (Tray.cells a0)) (cs:=(Tray.cells a0)) hS (by decide) rfl rfl (by omega) fun H hS=>?_
 refine Oa (.i 0) ?_
 refine Ni ?_
 refine zcW (L':=[]) 0 2 hS rfl rfl rfl fun H hS=>?_
 refine Ws ?_
 refine Sq ?_
 refine Sq ?_
 refine Rg 3 ?_
 refine Om (.i a1) ?_
 obtain ⟨q1,hq1,hM⟩:=zap hM
 refine zii (by decide) rfl rfl (zjo hq1) ?_
 refine Oi (.b (q1==0)) ?_
 refine Ni ?_
 refine Ws ?_
 rcases bft (q1==0) with hb2 | hb2
 ·replace hM:=ifT hM hb2
  refine Ct hb2 ?_
  refine Sq ?_
  refine Rg 8 ?_
  refine Of ((Tray.cells a0)) zbK ?_
  refine Olp (.sl .no 2 (a0.Records.map TrayRecord.cells)) zcv zc3 ?_
  refine Om (.i a1) ?_
  obtain ⟨q3,hq3,hM⟩:=zap hM
  refine zii (by decide) rfl rfl (zhr hq3) ?_
  obtain ⟨x4,hx4,hM⟩:=zap hM
  refine zbr (xs:=a0.Records) (f:=TrayRecord.cells) (z:=q3) (u:=x4) (by decide) rfl rfl zgQ hx4 ?_
  refine Of ((TrayRecord.cells x4)) zhh ?_
  refine Olp (.i x4.Front) zai zas ?_
  refine Oa (.i x4.Front) ?_
  refine Ni ?_
  refine Ws ?_
  refine zbB ?_
  refine zay ?_
  refine zbL (x:=.i x4.Front) (f:=fun r=>.i r) (.inr rfl) ?_ (.refl _) (Option.some.inj hM) hS
  exact (zaJ (zau (x:=.i x4.Front) rfl))
 ·replace hM:=ifF hM hb2
  refine Cf hb2 ?_
  refine zaI ?_
  refine Ws ?_
  refine Sq ?_
  refine Rg 8 ?_
  refine Of ((Tray.cells a0)) zbK ?_
  refine Olp (.sl .no 2 (a0.Records.map TrayRecord.cells)) zcv zc3 ?_
  refine Om (.i a1) ?_
  obtain ⟨q5,hq5,hM⟩:=zap hM
  refine zii (by decide) rfl rfl (zhr hq5) ?_
  obtain ⟨x6,hx6,hM⟩:=zap hM
  refine zbr (xs:=a0.Records) (f:=TrayRecord.cells) (z:=q5) (u:=x6) (by decide) rfl rfl zgQ hx6 ?_
  refine Of ((TrayRecord.cells x6)) zhi ?_
  refine Olp (.i x6.Back) zai zas ?_
  refine Oa (.i x6.Back) ?_
  refine Ni ?_
  refine Ws ?_
  refine zbB ?_
  refine zbL (x:=.i x6.Back) (f:=fun r=>.i r) (.inr rfl) ?_ (.refl _) (Option.some.inj hM) hS
  exact (zaJ (zau (x:=.i x6.Back) rfl))
theorem zgv {p1 w10 w11 w12:Nat} (hnd:[p1,w10,w11,w12].Nodup) {st:Carriage_} {r:Unit×Carriage_} (hM:zdG st=some r):ziI Try.prog 94 [.ptr p1 0] [(p1,.cells [.sl .no 2 (st.t.Records.map TrayRecord.cells),.i st.t.At,.i st.t.Way,.i st.t.Step,.sl .no 2 (st.t.Presses.map TrayPress.cells),.sl .no 2 (st.queue.map TrayPress.cells),.ms w10 0 1 (2*st.t.Records.length) (2*st.t.Records.length),.i st.now,.i st.at_.At,.i st.at_.Way,.i st.at_.Side,.sl (.id w11) 4 (st.run.spells.map Spell_.cells),.sl (.id w12) 2 (st.run.plays.map TrayPlay.cells),.i st.run.steps,.i st.run.end_]),(w10,.cells (st.pins.map cB).flatten),(w11,.row 160 st.run.spells.length),(w12,.row 71 st.run.plays.length)] (.tup []) [(p1,.cells [.sl .no 2 (r.2.t.Records.map TrayRecord.cells),.i r.2.t.At,.i r.2.t.Way,.i r.2.t.Step,.sl .no 2 (r.2.t.Presses.map TrayPress.cells),.sl .no 2 (r.2.queue.map TrayPress.cells),.ms w10 0 1 (2*r.2.t.Records.length) (2*r.2.t.Records.length),.i r.2.now,.i r.2.at_.At,.i r.2.at_.Way,.i r.2.at_.Side,.sl (.id w11) 4 (r.2.run.spells.map Spell_.cells),.sl (.id w12) 2 (r.2.run.plays.map TrayPlay.cells),.i r.2.run.steps,.i r.2.run.end_]),(w10,.cells (r.2.pins.map cB).flatten),(w11,.row 160 r.2.run.spells.length),(w12,.row 71 r.2.run.plays.length)]:=by
 refine zdv mixed Try.func94 rfl (by decide) Try.ntmps94 (by simp) (zdA (zdA (zhK (zhK zfG)))) hnd ?pure ?cells fun H0 g hf_ hp=>?_
 case pure=>exact fun H _=>(show Go.AM.Pure _ from .tup _ zaN).inH
 case cells=>exact (zgz (zdz (zaH (.inl (.inl (.sl _ _ (zaK (fun x=>(zaf (.v _) (zaf (.v _) zaN))))))) (zaH (.inl (.inl (.v _))) (zaH (.inl (.inl (.v _))) (zaH (.inl (.inl (.v _))) (zaH (.inl (.inl (.sl _ _ (zaK (fun x=>(zaf (.v _) (zaf (.v _) zaN))))))) (zaH (.inl (.inl (.sl _ _ (zaK (fun x=>(zaf (.v _) (zaf (.v _) zaN))))))) (zaH (.inr (.inr ⟨_,_,_,_,_,_,rfl,(List.mem_of_getElem? (i:=1) rfl)⟩)) (zaH (.inl (.inl (.v _))) (zaH (.inl (.inl (.v _))) (zaH (.inl (.inl (.v _))) (zaH (.inl (.inl (.v _))) (zaH (.inl (.inr ⟨_,_,_,_,_,rfl,(List.mem_of_getElem? (i:=2) rfl),zaK (fun x=>(zaf (.v _) (zaf (.v _) (zaf (.v _) (zaf (.v _) zaN)))))⟩)) (zaH (.inl (.inr ⟨_,_,_,_,_,rfl,(List.mem_of_getElem? (i:=3) rfl),zaK (fun x=>(zaf (.v _) (zaf (.v _) zaN)))⟩)) (zaH (.inl (.inl (.v _))) (zaH (.inl (.inl (.v _))) zk6))))))))))))))) (zdz (zfk (fun x=>(zaf (.v _) zaN))) (zhJ (zhJ zgy)))) zhs)
 rw [zaA]
 change wpA _ _ _ _ (Fr.of [(0,.ptr p1 0)]) H0 g
 have hS:=St.startH (L:=[(p1,.cells [.sl .no 2 (st.t.Records.map TrayRecord.cells),.i st.t.At,.i st.t.Way,.i st.t.Step,.sl .no 2 (st.t.Presses.map TrayPress.cells),.sl .no 2 (st.queue.map TrayPress.cells),.ms w10 0 1 (2*st.t.Records.length) (2*st.t.Records.length),.i st.now,.i st.at_.At,.i st.at_.Way,.i st.at_.Side,.sl (.id w11) 4 (st.run.spells.map Spell_.cells),.sl (.id w12) 2 (st.run.plays.map TrayPlay.cells),.i st.run.steps,.i st.run.end_]),(w10,.cells (st.pins.map cB).flatten),(w11,.row 160 st.run.spells.length),(w12,.row 71 st.run.plays.length)]) hf_ hnd hp
 replace hS:St (fun i=>i<g/\i∉ids [(p1,.cells [.sl .no 2 (st.t.Records.map TrayRecord.cells),.i st.t.At,.i st.t.Way,.i st.t.Step,.sl .no 2 (st.t.Presses.map TrayPress.cells),.sl .no 2 (st.queue.map TrayPress.cells),.ms w10 0 1 (2*st.t.Records.length) (2*st.t.Records.length),.i st.now,.i st.at_.At,.i st.at_.Way,.i st.at_.Side,.sl (.id w11) 4 (st.run.spells.map Spell_.cells),.sl (.id w12) 2 (st.run.plays.map TrayPlay.cells),.i st.run.steps,.i st.run.end_]),(w10,.cells (st.pins.map cB).flatten),(w11,.row 160 st.run.spells.length),(w12,.row 71 st.run.plays.length)]) H0 [(p1,.cells [.sl .no 2 (st.t.Records.map TrayRecord.cells),.i st.t.At,.i st.t.Way,.i st.t.Step,.sl .no 2 (st.t.Presses.map TrayPress.cells),.sl .no 2 (st.queue.map TrayPress.cells),.ms w10 0 1 (2*st.t.Records.length) (2*st.t.Records.length),.i st.now,.i st.at_.At,.i st.at_.Way,.i st.at_.Side,.sl (.id w11) 4 (st.run.spells.map Spell_.cells),.sl (.id w12) 2 (st.run.plays.map TrayPlay.cells),.i st.run.steps,.i st.run.end_]),(w10,.cells (st.pins.map cB).flatten),(w11,.row 160 st.run.spells.length),(w12,.row 71 st.run.plays.length)] H0 g:=hS
 refine zaY (J:=Int×Int×Int×Int) (fun j=>[(0,.ptr p1 0)]) (fun j H' g'=>St (fun i=>i<g/\i∉ids [(p1,.cells [.sl .no 2 (st.t.Records.map TrayRecord.cells),.i st.t.At,.i st.t.Way,.i st.t.Step,.sl .no 2 (st.t.Presses.map TrayPress.cells),.sl .no 2 (st.queue.map TrayPress.cells),.ms w10 0 1 (2*st.t.Records.length) (2*st.t.Records.length),.i st.now,.i st.at_.At,.i st.at_.Way,.i st.at_.Side,.sl (.id w11) 4 (st.run.spells.map Spell_.cells),.sl (.id w12) 2 (st.run.plays.map TrayPlay.cells),.i st.run.steps,.i st.run.end_]),(w10,.cells (st.pins.map cB).flatten),(w11,.row 160 st.run.spells.length),(w12,.row 71 st.run.plays.length)]) H0 [(p1,.cells [.sl .no 2 (st.t.Records.map TrayRecord.cells),.i st.t.At,.i st.t.Way,.i st.t.Step,.sl .no 2 (st.t.Presses.map TrayPress.cells),.sl .no 2 (st.queue.map TrayPress.cells),.ms w10 0 1 (2*st.t.Records.length) (2*st.t.Records.length),.i j.1,.i j.2.1,.i j.2.2.1,.i st.at_.Side,.sl (.id w11) 4 (st.run.spells.map Spell_.cells),.sl (.id w12) 2 (st.run.plays.map TrayPlay.cells),.i j.2.2.2,.i st.run.end_]),(w10,.cells (st.pins.map cB).flatten),(w11,.row 160 st.run.spells.length),(w12,.row 71 st.run.plays.length)] H' g'/\zb1 st j.1 j.2.1 j.2.2.1 j.2.2.2=some r) ?_ ?_
 ·rintro ⟨v1,v2,v3,v4⟩ H g1 ⟨hS,hM⟩
  change wpA _ _ _ _ (Fr.of [(0,.ptr p1 0)]) _ _
  replace hS:St (fun i=>i<g/\i∉ids [(p1,.cells [.sl .no 2 (st.t.Records.map TrayRecord.cells),.i st.t.At,.i st.t.Way,.i st.t.Step,.sl .no 2 (st.t.Presses.map TrayPress.cells),.sl .no 2 (st.queue.map TrayPress.cells),.ms w10 0 1 (2*st.t.Records.length) (2*st.t.Records.length),.i st.now,.i st.at_.At,.i st.at_.Way,.i st.at_.Side,.sl (.id w11) 4 (st.run.spells.map Spell_.cells),.sl (.id w12) 2 (st.run.plays.map TrayPlay.cells),.i st.run.steps,.i st.run.end_]),(w10,.cells (st.pins.map cB).flatten),(w11,.row 160 st.run.spells.length),(w12,.row 71 st.run.plays.length)]) H0 [(p1,.cells [.sl .no 2 (st.t.Records.map TrayRecord.cells),.i st.t.At,.i st.t.Way,.i st.t.Step,.sl .no 2 (st.t.Presses.map TrayPress.cells),.sl .no 2 (st.queue.map TrayPress.cells),.ms w10 0 1 (2*st.t.Records.length) (2*st.t.Records.length),.i v1,.i v2,.i v3,.i st.at_.Side,.sl (.id w11) 4 (st.run.spells.map Spell_.cells),.sl (.id w12) 2 (st.run.plays.map TrayPlay.cells),.i v4,.i st.run.end_]),(w10,.cells (st.pins.map cB).flatten),(w11,.row 160 st.run.spells.length),(w12,.row 71 st.run.plays.length)] H g1:=hS
  replace hM:zb1 st v1 v2 v3 v4=some r:=hM
  refine Rg 2 ?_
  refine Om (.ptr p1 0) ?_
  obtain ⟨r5,hr5,hM⟩:=zap hM
  have hndr5:=hS.nd_at (ns:=[0,1,2,3]) (M:=[(p1,.cells [.sl .no 2 (st.t.Records.map TrayRecord.cells),.i st.t.At,.i st.t.Way,.i st.t.Step,.sl .no 2 (st.t.Presses.map TrayPress.cells),.sl .no 2 (st.queue.map TrayPress.cells),.ms w10 0 1 (2*st.t.Records.length) (2*st.t.Records.length),.i v1,.i v2,.i v3,.i st.at_.Side,.sl (.id w11) 4 (st.run.spells.map Spell_.cells),.sl (.id w12) 2 (st.run.plays.map TrayPlay.cells),.i v4,.i st.run.end_]),(w10,.cells (st.pins.map cB).flatten),(w11,.row 160 st.run.spells.length),(w12,.row 71 st.run.plays.length)]) (M':=[(p1,.cells [.sl .no 2 (r5.2.t.Records.map TrayRecord.cells),.i r5.2.t.At,.i r5.2.t.Way,.i r5.2.t.Step,.sl .no 2 (r5.2.t.Presses.map TrayPress.cells),.sl .no 2 (r5.2.queue.map TrayPress.cells),.ms w10 0 1 (2*r5.2.t.Records.length) (2*r5.2.t.Records.length),.i r5.2.now,.i r5.2.at_.At,.i r5.2.at_.Way,.i r5.2.at_.Side,.sl (.id w11) 4 (r5.2.run.spells.map Spell_.cells),.sl (.id w12) 2 (r5.2.run.plays.map TrayPlay.cells),.i r5.2.run.steps,.i r5.2.run.end_]),(w10,.cells (r5.2.pins.map cB).flatten),(w11,.row 160 r5.2.run.spells.length),(w12,.row 71 r5.2.run.plays.length)]) (.cons rfl (.cons rfl (.cons rfl (.cons rfl .nil)))) (by decide)
  refine zfY (bs:=[.ptr p1 0,.i (-1)]) (M:=[(p1,.cells [.sl .no 2 (st.t.Records.map TrayRecord.cells),.i st.t.At,.i st.t.Way,.i st.t.Step,.sl .no 2 (st.t.Presses.map TrayPress.cells),.sl .no 2 (st.queue.map TrayPress.cells),.ms w10 0 1 (2*st.t.Records.length) (2*st.t.Records.length),.i v1,.i v2,.i v3,.i st.at_.Side,.sl (.id w11) 4 (st.run.spells.map Spell_.cells),.sl (.id w12) 2 (st.run.plays.map TrayPlay.cells),.i v4,.i st.run.end_]),(w10,.cells (st.pins.map cB).flatten),(w11,.row 160 st.run.spells.length),(w12,.row 71 st.run.plays.length)]) (M':=[(p1,.cells [.sl .no 2 (r5.2.t.Records.map TrayRecord.cells),.i r5.2.t.At,.i r5.2.t.Way,.i r5.2.t.Step,.sl .no 2 (r5.2.t.Presses.map TrayPress.cells),.sl .no 2 (r5.2.queue.map TrayPress.cells),.ms w10 0 1 (2*r5.2.t.Records.length) (2*r5.2.t.Records.length),.i r5.2.now,.i r5.2.at_.At,.i r5.2.at_.Way,.i r5.2.at_.Side,.sl (.id w11) 4 (r5.2.run.spells.map Spell_.cells),.sl (.id w12) 2 (r5.2.run.plays.map TrayPlay.cells),.i r5.2.run.steps,.i r5.2.run.end_]),(w10,.cells (r5.2.pins.map cB).flatten),(w11,.row 160 r5.2.run.spells.length),(w12,.row 71 r5.2.run.plays.length)]) (L':=[(p1,.cells [.sl .no 2 (r5.2.t.Records.map TrayRecord.cells),.i r5.2.t.At,.i r5.2.t.Way,.i r5.2.t.Step,.sl .no 2 (r5.2.t.Presses.map TrayPress.cells),.sl .no 2 (r5.2.queue.map TrayPress.cells),.ms w10 0 1 (2*r5.2.t.Records.length) (2*r5.2.t.Records.length),.i r5.2.now,.i r5.2.at_.At,.i r5.2.at_.Way,.i r5.2.at_.Side,.sl (.id w11) 4 (r5.2.run.spells.map Spell_.cells),.sl (.id w12) 2 (r5.2.run.plays.map TrayPlay.cells),.i r5.2.run.steps,.i r5.2.run.end_]),(w10,.cells (r5.2.pins.map cB).flatten),(w11,.row 160 r5.2.run.spells.length),(w12,.row 71 r5.2.run.plays.length)]) [0,1,2,3] (.inl rfl) hS (by decide) rfl rfl ((zcH (p1:=p1) (w10:=w10) (w11:=w11) (w12:=w12) hndr5 hr5).le (.k (.k .nil))) (.cons rfl (.cons rfl (.cons rfl (.cons rfl .nil)))) rfl (by omega) fun H hS=>?_
  refine Ni ?_
  refine zfF (x:=.tup []) (f:=fun r=>.tup []) (fd:=fun r=>[(p1,.cells [.sl .no 2 (r.2.t.Records.map TrayRecord.cells),.i r.2.t.At,.i r.2.t.Way,.i r.2.t.Step,.sl .no 2 (r.2.t.Presses.map TrayPress.cells),.sl .no 2 (r.2.queue.map TrayPress.cells),.ms w10 0 1 (2*r.2.t.Records.length) (2*r.2.t.Records.length),.i r.2.now,.i r.2.at_.At,.i r.2.at_.Way,.i r.2.at_.Side,.sl (.id w11) 4 (r.2.run.spells.map Spell_.cells),.sl (.id w12) 2 (r.2.run.plays.map TrayPlay.cells),.i r.2.run.steps,.i r.2.run.end_]),(w10,.cells (r.2.pins.map cB).flatten),(w11,.row 160 r.2.run.spells.length),(w12,.row 71 r.2.run.plays.length)]) (.inl rfl) ?_ (.refl _) (Option.some.inj hM) hS 0 rfl
  exact rfl
 ·refine Sq ?_
  have hS0:=hS
  refine zdb (n:=12) rfl (by kernel_rfl) ?_
  refine Om (.ptr p1 0) ?_
  refine zbQ (by decide) rfl ?_
  refine zan (by decide) zd0 rfl ?_
  refine zan (by decide) zhz rfl ?_
  refine zbJ (v:=.i st.at_.At) 0 hS (by decide) rfl rfl (.st hS0 0 rfl (by omega)) (po zai zas) ?_
  refine Om (.ptr p1 0) ?_
  refine zbQ (by decide) rfl ?_
  refine zan (by decide) zd0 rfl ?_
  refine zan (by decide) zgp rfl ?_
  refine zbJ (v:=.i st.at_.Way) 0 hS (by decide) rfl rfl (.st hS0 0 rfl (by omega)) (po zai zas) ?_
  refine Oi (.i (w64 (st.at_.At+st.at_.Way))) ?_
  refine Oa (.i (w64 (st.at_.At+st.at_.Way))) ?_
  refine Ni ?_
  refine Ws ?_
  refine zaY (J:=Bool) (fun j=>[(0,.ptr p1 0),(2,.i (w64 (st.at_.At+st.at_.Way))),(25,.b j)]) (fun j H' g'=>St (fun i=>i<g/\i∉ids [(p1,.cells [.sl .no 2 (st.t.Records.map TrayRecord.cells),.i st.t.At,.i st.t.Way,.i st.t.Step,.sl .no 2 (st.t.Presses.map TrayPress.cells),.sl .no 2 (st.queue.map TrayPress.cells),.ms w10 0 1 (2*st.t.Records.length) (2*st.t.Records.length),.i st.now,.i st.at_.At,.i st.at_.Way,.i st.at_.Side,.sl (.id w11) 4 (st.run.spells.map Spell_.cells),.sl (.id w12) 2 (st.run.plays.map TrayPlay.cells),.i st.run.steps,.i st.run.end_]),(w10,.cells (st.pins.map cB).flatten),(w11,.row 160 st.run.spells.length),(w12,.row 71 st.run.plays.length)]) H0 [(p1,.cells [.sl .no 2 (st.t.Records.map TrayRecord.cells),.i st.t.At,.i st.t.Way,.i st.t.Step,.sl .no 2 (st.t.Presses.map TrayPress.cells),.sl .no 2 (st.queue.map TrayPress.cells),.ms w10 0 1 (2*st.t.Records.length) (2*st.t.Records.length),.i st.now,.i st.at_.At,.i st.at_.Way,.i st.at_.Side,.sl (.id w11) 4 (st.run.spells.map Spell_.cells),.sl (.id w12) 2 (st.run.plays.map TrayPlay.cells),.i st.run.steps,.i st.run.end_]),(w10,.cells (st.pins.map cB).flatten),(w11,.row 160 st.run.spells.length),(w12,.row 71 st.run.plays.length)] H' g'/\zbj st j=some r) ?_ ?_
  ·rintro v6 H g2 ⟨hS,hM⟩
   change wpA _ _ _ _ (Fr.of [(0,.ptr p1 0),(2,.i (w64 (st.at_.At+st.at_.Way))),(25,.b v6)]) _ _
   replace hS:St (fun i=>i<g/\i∉ids [(p1,.cells [.sl .no 2 (st.t.Records.map TrayRecord.cells),.i st.t.At,.i st.t.Way,.i st.t.Step,.sl .no 2 (st.t.Presses.map TrayPress.cells),.sl .no 2 (st.queue.map TrayPress.cells),.ms w10 0 1 (2*st.t.Records.length) (2*st.t.Records.length),.i st.now,.i st.at_.At,.i st.at_.Way,.i st.at_.Side,.sl (.id w11) 4 (st.run.spells.map Spell_.cells),.sl (.id w12) 2 (st.run.plays.map TrayPlay.cells),.i st.run.steps,.i st.run.end_]),(w10,.cells (st.pins.map cB).flatten),(w11,.row 160 st.run.spells.length),(w12,.row 71 st.run.plays.length)]) H0 [(p1,.cells [.sl .no 2 (st.t.Records.map TrayRecord.cells),.i st.t.At,.i st.t.Way,.i st.t.Step,.sl .no 2 (st.t.Presses.map TrayPress.cells),.sl .no 2 (st.queue.map TrayPress.cells),.ms w10 0 1 (2*st.t.Records.length) (2*st.t.Records.length),.i st.now,.i st.at_.At,.i st.at_.Way,.i st.at_.Side,.sl (.id w11) 4 (st.run.spells.map Spell_.cells),.sl (.id w12) 2 (st.run.plays.map TrayPlay.cells),.i st.run.steps,.i st.run.end_]),(w10,.cells (st.pins.map cB).flatten),(w11,.row 160 st.run.spells.length),(w12,.row 71 st.run.plays.length)] H g2:=hS
   replace hM:zbj st v6=some r:=hM
   rcases bft v6 with hb7 | hb7
   ·replace hM:=ifT hM hb7
    refine Ct hb7 ?_
    refine Sq ?_
    refine Rg 6 ?_
    refine Om (.ptr p1 0) ?_
    refine Om (.i (w64 (st.at_.At+st.at_.Way))) ?_
    refine zbQ (by decide) rfl ?_
    refine zan (by decide) zd0 rfl ?_
    refine zan (by decide) zhz rfl ?_
    refine zbC (v:=.i (w64 (st.at_.At+st.at_.Way))) (ns:=[.i (w64 (st.at_.At+st.at_.Way))]) (L':=[(p1,.cells [.sl .no 2 (st.t.Records.map TrayRecord.cells),.i st.t.At,.i st.t.Way,.i st.t.Step,.sl .no 2 (st.t.Presses.map TrayPress.cells),.sl .no 2 (st.queue.map TrayPress.cells),.ms w10 0 1 (2*st.t.Records.length) (2*st.t.Records.length),.i st.now,.i (w64 (st.at_.At+st.at_.Way)),.i st.at_.Way,.i st.at_.Side,.sl (.id w11) 4 (st.run.spells.map Spell_.cells),.sl (.id w12) 2 (st.run.plays.map TrayPlay.cells),.i st.run.steps,.i st.run.end_]),(w10,.cells (st.pins.map cB).flatten),(w11,.row 160 st.run.spells.length),(w12,.row 71 st.run.plays.length)]) 0 hS rfl rfl .no rfl rfl zdO nlb rfl fun H hS=>?_
    refine Ni ?_
    refine Ws ?_
    refine Sq ?_
    have hS0:=hS
    refine zdb (n:=13) rfl (by kernel_rfl) ?_
    refine Om (.ptr p1 0) ?_
    refine zbQ (by decide) rfl ?_
    refine zan (by decide) zdZ rfl ?_
    refine zbJ (v:=.i st.now) 0 hS (by decide) rfl rfl (.st hS0 0 rfl (by omega)) (po zai zas) ?_
    refine Om (.ptr p1 0) ?_
    refine zbQ (by decide) rfl ?_
    refine zan (by decide) zhA rfl ?_
    refine zan (by decide) ze4 rfl ?_
    refine zbJ (v:=.i st.t.Step) 0 hS (by decide) rfl rfl (.st hS0 0 rfl (by omega)) (po zai zas) ?_
    refine Oi (.i (w64 (st.now+st.t.Step))) ?_
    refine zbQ (by decide) rfl ?_
    refine zan (by decide) zdZ rfl ?_
    refine zbC (v:=.i (w64 (st.now+st.t.Step))) (ns:=[.i (w64 (st.now+st.t.Step))]) (L':=[(p1,.cells [.sl .no 2 (st.t.Records.map TrayRecord.cells),.i st.t.At,.i st.t.Way,.i st.t.Step,.sl .no 2 (st.t.Presses.map TrayPress.cells),.sl .no 2 (st.queue.map TrayPress.cells),.ms w10 0 1 (2*st.t.Records.length) (2*st.t.Records.length),.i (w64 (st.now+st.t.Step)),.i (w64 (st.at_.At+st.at_.Way)),.i st.at_.Way,.i st.at_.Side,.sl (.id w11) 4 (st.run.spells.map Spell_.cells),.sl (.id w12) 2 (st.run.plays.map TrayPlay.cells),.i st.run.steps,.i st.run.end_]),(w10,.cells (st.pins.map cB).flatten),(w11,.row 160 st.run.spells.length),(w12,.row 71 st.run.plays.length)]) 0 hS rfl rfl (.st hS0 0 rfl (by omega)) rfl rfl zdO nlb rfl fun H hS=>?_
    refine Ni ?_
    refine Ws ?_
    refine Rg 10 ?_
    refine Om (.ptr p1 0) ?_
    refine zbQ (by decide) rfl ?_
    refine zan (by decide) zd1 rfl ?_
    refine zan (by decide) zi6 rfl ?_
    refine zbJ (v:=.i st.run.steps) 0 hS (by decide) rfl rfl .no (po zai zas) ?_
    refine Oi (.i (w64 (st.run.steps+1))) ?_
    refine zbQ (by decide) rfl ?_
    refine zan (by decide) zd1 rfl ?_
    refine zan (by decide) zi6 rfl ?_
    refine zbC (v:=.i (w64 (st.run.steps+1))) (ns:=[.i (w64 (st.run.steps+1))]) (L':=[(p1,.cells [.sl .no 2 (st.t.Records.map TrayRecord.cells),.i st.t.At,.i st.t.Way,.i st.t.Step,.sl .no 2 (st.t.Presses.map TrayPress.cells),.sl .no 2 (st.queue.map TrayPress.cells),.ms w10 0 1 (2*st.t.Records.length) (2*st.t.Records.length),.i (w64 (st.now+st.t.Step)),.i (w64 (st.at_.At+st.at_.Way)),.i st.at_.Way,.i st.at_.Side,.sl (.id w11) 4 (st.run.spells.map Spell_.cells),.sl (.id w12) 2 (st.run.plays.map TrayPlay.cells),.i (w64 (st.run.steps+1)),.i st.run.end_]),(w10,.cells (st.pins.map cB).flatten),(w11,.row 160 st.run.spells.length),(w12,.row 71 st.run.plays.length)]) 0 hS rfl rfl .no rfl rfl zdO nlb rfl fun H hS=>?_
    refine Ni ?_
    exact zal (w64 (st.now+st.t.Step),w64 (st.at_.At+st.at_.Way),st.at_.Way,w64 (st.run.steps+1)) (.k .nil) ⟨(hS.keep [true,true,true,true] rfl).up (by omega),hM⟩
   ·replace hM:=ifF hM hb7
    refine Cf hb7 ?_
    refine Rg 11 ?_
    refine Om (.ptr p1 0) ?_
    refine Om (.ptr p1 0) ?_
    refine zbQ (by decide) rfl ?_
    refine zan (by decide) zd0 rfl ?_
    refine zan (by decide) zgp rfl ?_
    refine zbJ (v:=.i st.at_.Way) 0 hS (by decide) rfl rfl .no (po zai zas) ?_
    refine ztg (n:=st.at_.Way) (by decide) rfl ?_
    refine zbQ (by decide) rfl ?_
    refine zan (by decide) zd0 rfl ?_
    refine zan (by decide) zgp rfl ?_
    refine zbC (v:=.i (w64 (0-st.at_.Way))) (ns:=[.i (w64 (0-st.at_.Way))]) (L':=[(p1,.cells [.sl .no 2 (st.t.Records.map TrayRecord.cells),.i st.t.At,.i st.t.Way,.i st.t.Step,.sl .no 2 (st.t.Presses.map TrayPress.cells),.sl .no 2 (st.queue.map TrayPress.cells),.ms w10 0 1 (2*st.t.Records.length) (2*st.t.Records.length),.i st.now,.i st.at_.At,.i (w64 (0-st.at_.Way)),.i st.at_.Side,.sl (.id w11) 4 (st.run.spells.map Spell_.cells),.sl (.id w12) 2 (st.run.plays.map TrayPlay.cells),.i st.run.steps,.i st.run.end_]),(w10,.cells (st.pins.map cB).flatten),(w11,.row 160 st.run.spells.length),(w12,.row 71 st.run.plays.length)]) 0 hS rfl rfl .no rfl rfl zdO nlb rfl fun H hS=>?_
    refine Ni ?_
    exact zal (st.now,st.at_.At,w64 (0-st.at_.Way),st.run.steps) (.k .nil) ⟨(hS.keep [true,true,true,true] rfl).up (by omega),hM⟩
  ·refine Rg 12 ?_
   refine Om (.i (w64 (st.at_.At+st.at_.Way))) ?_
   refine Oi (.b (decide ((w64 (st.at_.At+st.at_.Way))≥0))) ?_
   refine Om (.b (decide ((w64 (st.at_.At+st.at_.Way))≥0))) ?_
   rcases bft (decide ((w64 (st.at_.At+st.at_.Way))≥0)) with hb8 | hb8
   ·replace hM:=ifT hM hb8
    refine Oy (want:=true) hb8 ?_
    refine Om (.i (w64 (st.at_.At+st.at_.Way))) ?_
    refine Oy (want:=true) hb8 ?_
    refine Om (.ptr p1 0) ?_
    refine Oy (want:=true) hb8 ?_
    refine zbQ (by decide) rfl ?_
    refine Oy (want:=true) hb8 ?_
    refine zan (by decide) zhA rfl ?_
    refine Oy (want:=true) hb8 ?_
    refine zan (by decide) zbK rfl ?_
    refine Oy (want:=true) hb8 ?_
    refine zbJ (v:=.sl .no 2 (st.t.Records.map TrayRecord.cells)) 0 hS (by decide) rfl rfl .no (po zcv zc3) ?_
    refine Oy (want:=true) hb8 ?_
    refine zcI (n:=st.t.Records.length) (by decide) rfl (List.length_map _) zc9 ?_
    refine Oy (want:=true) hb8 ?_
    refine Oi (.b (decide ((w64 (st.at_.At+st.at_.Way))<(st.t.Records.length:Int)))) ?_
    refine Pt (.b (decide ((w64 (st.at_.At+st.at_.Way))<(st.t.Records.length:Int)))) hb8 ?_
    refine Ni ?_
    exact zal (decide ((w64 (st.at_.At+st.at_.Way))<(st.t.Records.length:Int))) (.k (.k (.k .nil))) ⟨(hS.keep [true,true,true,true] rfl).up (by omega),hM⟩
   ·replace hM:=ifF hM hb8
    refine On (want:=true) hb8 ?_
    refine On (want:=true) hb8 ?_
    refine On (want:=true) hb8 ?_
    refine On (want:=true) hb8 ?_
    refine On (want:=true) hb8 ?_
    refine On (want:=true) hb8 ?_
    refine On (want:=true) hb8 ?_
    refine On (want:=true) hb8 ?_
    refine Pf (.b false) hb8 ?_
    refine Ni ?_
    exact zal false (.k (.k (.k .nil))) ⟨(hS.keep [true,true,true,true] rfl).up (by omega),hM⟩
theorem ze7 {p1 w10 w11 w12:Nat} (hnd:[p1,w10,w11,w12].Nodup) {n:Nat} {st:Carriage_} {r:Bool×Carriage_} (hM:zcp n st=some r):ziI Try.prog 70 [.ptr p1 0] [(p1,.cells [.sl .no 2 (st.t.Records.map TrayRecord.cells),.i st.t.At,.i st.t.Way,.i st.t.Step,.sl .no 2 (st.t.Presses.map TrayPress.cells),.sl .no 2 (st.queue.map TrayPress.cells),.ms w10 0 1 (2*st.t.Records.length) (2*st.t.Records.length),.i st.now,.i st.at_.At,.i st.at_.Way,.i st.at_.Side,.sl (.id w11) 4 (st.run.spells.map Spell_.cells),.sl (.id w12) 2 (st.run.plays.map TrayPlay.cells),.i st.run.steps,.i st.run.end_]),(w10,.cells (st.pins.map cB).flatten),(w11,.row 160 st.run.spells.length),(w12,.row 71 st.run.plays.length)] (.b r.1) [(p1,.cells [.sl .no 2 (r.2.t.Records.map TrayRecord.cells),.i r.2.t.At,.i r.2.t.Way,.i r.2.t.Step,.sl .no 2 (r.2.t.Presses.map TrayPress.cells),.sl .no 2 (r.2.queue.map TrayPress.cells),.ms w10 0 1 (2*r.2.t.Records.length) (2*r.2.t.Records.length),.i r.2.now,.i r.2.at_.At,.i r.2.at_.Way,.i r.2.at_.Side,.sl (.id w11) 4 (r.2.run.spells.map Spell_.cells),.sl (.id w12) 2 (r.2.run.plays.map TrayPlay.cells),.i r.2.run.steps,.i r.2.run.end_]),(w10,.cells (r.2.pins.map cB).flatten),(w11,.row 160 r.2.run.spells.length),(w12,.row 71 r.2.run.plays.length)]:=by
 refine zdv mixed Try.func70 rfl (by decide) Try.ntmps70 (by simp) (zdA (zdA (zhK (zhK zfG)))) hnd ?pure ?cells fun H0 g hf_ hp=>?_
 case pure=>exact fun H _=>(show Go.AM.Pure _ from .v _).inH
 case cells=>exact (zgz (zdz (zaH (.inl (.inl (.sl _ _ (zaK (fun x=>(zaf (.v _) (zaf (.v _) zaN))))))) (zaH (.inl (.inl (.v _))) (zaH (.inl (.inl (.v _))) (zaH (.inl (.inl (.v _))) (zaH (.inl (.inl (.sl _ _ (zaK (fun x=>(zaf (.v _) (zaf (.v _) zaN))))))) (zaH (.inl (.inl (.sl _ _ (zaK (fun x=>(zaf (.v _) (zaf (.v _) zaN))))))) (zaH (.inr (.inr ⟨_,_,_,_,_,_,rfl,(List.mem_of_getElem? (i:=1) rfl)⟩)) (zaH (.inl (.inl (.v _))) (zaH (.inl (.inl (.v _))) (zaH (.inl (.inl (.v _))) (zaH (.inl (.inl (.v _))) (zaH (.inl (.inr ⟨_,_,_,_,_,rfl,(List.mem_of_getElem? (i:=2) rfl),zaK (fun x=>(zaf (.v _) (zaf (.v _) (zaf (.v _) (zaf (.v _) zaN)))))⟩)) (zaH (.inl (.inr ⟨_,_,_,_,_,rfl,(List.mem_of_getElem? (i:=3) rfl),zaK (fun x=>(zaf (.v _) (zaf (.v _) zaN)))⟩)) (zaH (.inl (.inl (.v _))) (zaH (.inl (.inl (.v _))) zk6))))))))))))))) (zdz (zfk (fun x=>(zaf (.v _) zaN))) (zhJ (zhJ zgy)))) zhs)
 rw [zaA]
 change wpA _ _ _ _ (Fr.of [(0,.ptr p1 0)]) H0 g
 have hS:=St.startH (L:=[(p1,.cells [.sl .no 2 (st.t.Records.map TrayRecord.cells),.i st.t.At,.i st.t.Way,.i st.t.Step,.sl .no 2 (st.t.Presses.map TrayPress.cells),.sl .no 2 (st.queue.map TrayPress.cells),.ms w10 0 1 (2*st.t.Records.length) (2*st.t.Records.length),.i st.now,.i st.at_.At,.i st.at_.Way,.i st.at_.Side,.sl (.id w11) 4 (st.run.spells.map Spell_.cells),.sl (.id w12) 2 (st.run.plays.map TrayPlay.cells),.i st.run.steps,.i st.run.end_]),(w10,.cells (st.pins.map cB).flatten),(w11,.row 160 st.run.spells.length),(w12,.row 71 st.run.plays.length)]) hf_ hnd hp
 replace hS:St (fun i=>i<g/\i∉ids [(p1,.cells [.sl .no 2 (st.t.Records.map TrayRecord.cells),.i st.t.At,.i st.t.Way,.i st.t.Step,.sl .no 2 (st.t.Presses.map TrayPress.cells),.sl .no 2 (st.queue.map TrayPress.cells),.ms w10 0 1 (2*st.t.Records.length) (2*st.t.Records.length),.i st.now,.i st.at_.At,.i st.at_.Way,.i st.at_.Side,.sl (.id w11) 4 (st.run.spells.map Spell_.cells),.sl (.id w12) 2 (st.run.plays.map TrayPlay.cells),.i st.run.steps,.i st.run.end_]),(w10,.cells (st.pins.map cB).flatten),(w11,.row 160 st.run.spells.length),(w12,.row 71 st.run.plays.length)]) H0 [(p1,.cells [.sl .no 2 (st.t.Records.map TrayRecord.cells),.i st.t.At,.i st.t.Way,.i st.t.Step,.sl .no 2 (st.t.Presses.map TrayPress.cells),.sl .no 2 (st.queue.map TrayPress.cells),.ms w10 0 1 (2*st.t.Records.length) (2*st.t.Records.length),.i st.now,.i st.at_.At,.i st.at_.Way,.i st.at_.Side,.sl (.id w11) 4 (st.run.spells.map Spell_.cells),.sl (.id w12) 2 (st.run.plays.map TrayPlay.cells),.i st.run.steps,.i st.run.end_]),(w10,.cells (st.pins.map cB).flatten),(w11,.row 160 st.run.spells.length),(w12,.row 71 st.run.plays.length)] H0 g:=hS
 refine Sq ?_
 refine Rg 1 ?_
 refine Oa (.b false) ?_
 refine Ni ?_
 refine Ws ?_
 refine Sq ?_
 refine Rg 2 ?_
 refine Om (.ptr p1 0) ?_
 obtain ⟨r1,hr1,hM⟩:=zap hM
 have hndr1:=hS.nd_at (ns:=[0,1,2,3]) (M:=[(p1,.cells [.sl .no 2 (st.t.Records.map TrayRecord.cells),.i st.t.At,.i st.t.Way,.i st.t.Step,.sl .no 2 (st.t.Presses.map TrayPress.cells),.sl .no 2 (st.queue.map TrayPress.cells),.ms w10 0 1 (2*st.t.Records.length) (2*st.t.Records.length),.i st.now,.i st.at_.At,.i st.at_.Way,.i st.at_.Side,.sl (.id w11) 4 (st.run.spells.map Spell_.cells),.sl (.id w12) 2 (st.run.plays.map TrayPlay.cells),.i st.run.steps,.i st.run.end_]),(w10,.cells (st.pins.map cB).flatten),(w11,.row 160 st.run.spells.length),(w12,.row 71 st.run.plays.length)]) (M':=[(p1,.cells [.sl .no 2 (r1.2.t.Records.map TrayRecord.cells),.i r1.2.t.At,.i r1.2.t.Way,.i r1.2.t.Step,.sl .no 2 (r1.2.t.Presses.map TrayPress.cells),.sl .no 2 (r1.2.queue.map TrayPress.cells),.ms w10 0 1 (2*r1.2.t.Records.length) (2*r1.2.t.Records.length),.i r1.2.now,.i r1.2.at_.At,.i r1.2.at_.Way,.i r1.2.at_.Side,.sl (.id w11) 4 (r1.2.run.spells.map Spell_.cells),.sl (.id w12) 2 (r1.2.run.plays.map TrayPlay.cells),.i r1.2.run.steps,.i r1.2.run.end_]),(w10,.cells (r1.2.pins.map cB).flatten),(w11,.row 160 r1.2.run.spells.length),(w12,.row 71 r1.2.run.plays.length)]) (.cons rfl (.cons rfl (.cons rfl (.cons rfl .nil)))) (by decide)
 refine zfY (bs:=[.ptr p1 0]) (M:=[(p1,.cells [.sl .no 2 (st.t.Records.map TrayRecord.cells),.i st.t.At,.i st.t.Way,.i st.t.Step,.sl .no 2 (st.t.Presses.map TrayPress.cells),.sl .no 2 (st.queue.map TrayPress.cells),.ms w10 0 1 (2*st.t.Records.length) (2*st.t.Records.length),.i st.now,.i st.at_.At,.i st.at_.Way,.i st.at_.Side,.sl (.id w11) 4 (st.run.spells.map Spell_.cells),.sl (.id w12) 2 (st.run.plays.map TrayPlay.cells),.i st.run.steps,.i st.run.end_]),(w10,.cells (st.pins.map cB).flatten),(w11,.row 160 st.run.spells.length),(w12,.row 71 st.run.plays.length)]) (M':=[(p1,.cells [.sl .no 2 (r1.2.t.Records.map TrayRecord.cells),.i r1.2.t.At,.i r1.2.t.Way,.i r1.2.t.Step,.sl .no 2 (r1.2.t.Presses.map TrayPress.cells),.sl .no 2 (r1.2.queue.map TrayPress.cells),.ms w10 0 1 (2*r1.2.t.Records.length) (2*r1.2.t.Records.length),.i r1.2.now,.i r1.2.at_.At,.i r1.2.at_.Way,.i r1.2.at_.Side,.sl (.id w11) 4 (r1.2.run.spells.map Spell_.cells),.sl (.id w12) 2 (r1.2.run.plays.map TrayPlay.cells),.i r1.2.run.steps,.i r1.2.run.end_]),(w10,.cells (r1.2.pins.map cB).flatten),(w11,.row 160 r1.2.run.spells.length),(w12,.row 71 r1.2.run.plays.length)]) (L':=[(p1,.cells [.sl .no 2 (r1.2.t.Records.map TrayRecord.cells),.i r1.2.t.At,.i r1.2.t.Way,.i r1.2.t.Step,.sl .no 2 (r1.2.t.Presses.map TrayPress.cells),.sl .no 2 (r1.2.queue.map TrayPress.cells),.ms w10 0 1 (2*r1.2.t.Records.length) (2*r1.2.t.Records.length),.i r1.2.now,.i r1.2.at_.At,.i r1.2.at_.Way,.i r1.2.at_.Side,.sl (.id w11) 4 (r1.2.run.spells.map Spell_.cells),.sl (.id w12) 2 (r1.2.run.plays.map TrayPlay.cells),.i r1.2.run.steps,.i r1.2.run.end_]),(w10,.cells (r1.2.pins.map cB).flatten),(w11,.row 160 r1.2.run.spells.length),(w12,.row 71 r1.2.run.plays.length)]) [0,1,2,3] (.inl rfl) hS (by decide) rfl rfl ((zga (p1:=p1) (w10:=w10) (w11:=w11) (w12:=w12) hndr1 hr1).le (.k .nil)) (.cons rfl (.cons rfl (.cons rfl (.cons rfl .nil)))) rfl (by omega) fun H hS=>?_
 refine Ni ?_
 refine Ws ?_
 refine Sq ?_
 refine Sq ?_
 refine Rg 6 ?_
 refine Om (.ptr p1 0) ?_
 refine zbQ (by decide) rfl ?_
 refine zan (by decide) zgq rfl ?_
 refine zbJ (v:=.ms w10 0 1 (2*r1.2.t.Records.length) (2*r1.2.t.Records.length)) 0 hS (by decide) rfl rfl .no (po zhf zhV) ?_
 obtain ⟨x2,hx2,hM⟩:=zap hM
 obtain ⟨r3,hr3,hM⟩:=zap hM
 refine zpi (k:=1) (m:=(2*r1.2.t.Records.length)) (es:=r1.2.pins.map cB) (bs:=[.b true]) 1 hS (by decide) (zgi hx2) rfl rfl rfl ((zfK hr3).le (.k (.k .nil))) (zaf (.v _) zaN) (by decide) (zfA (fun _=>rfl)) (zg3 (fun x=>(zeL zg2))) (by omega) ?_
 refine zgK (e:=r3) (by decide) rfl ?_
 refine Ni ?_
 refine Ws ?_
 rcases bft (!r3) with hb4 | hb4
 ·replace hM:=ifT hM hb4
  refine Ct hb4 ?_
  refine Sq ?_
  refine Sq ?_
  refine Rg 6 ?_
  refine Om (.ptr p1 0) ?_
  refine zbQ (by decide) rfl ?_
  refine zan (by decide) zdY rfl ?_
  refine zbJ (v:=.sl .no 2 (r1.2.queue.map TrayPress.cells)) 0 hS (by decide) rfl rfl .no (po zcJ zdq) ?_
  refine zcI (n:=r1.2.queue.length) (by decide) rfl (List.length_map _) zee ?_
  refine Oi (.b ((r1.2.queue.length:Int)==0)) ?_
  refine Ni ?_
  refine Ws ?_
  rcases bft ((r1.2.queue.length:Int)==0) with hb5 | hb5
  ·replace hM:=ifT hM hb5
   refine Ct hb5 ?_
   refine Sq ?_
   refine Rg 1 ?_
   refine Oa (.b false) ?_
   refine Ni ?_
   refine Ws ?_
   refine zbB ?_
   refine zay ?_
   refine zay ?_
   refine zfF (x:=.b false) (f:=fun r=>.b r.1) (fd:=fun r=>[(p1,.cells [.sl .no 2 (r.2.t.Records.map TrayRecord.cells),.i r.2.t.At,.i r.2.t.Way,.i r.2.t.Step,.sl .no 2 (r.2.t.Presses.map TrayPress.cells),.sl .no 2 (r.2.queue.map TrayPress.cells),.ms w10 0 1 (2*r.2.t.Records.length) (2*r.2.t.Records.length),.i r.2.now,.i r.2.at_.At,.i r.2.at_.Way,.i r.2.at_.Side,.sl (.id w11) 4 (r.2.run.spells.map Spell_.cells),.sl (.id w12) 2 (r.2.run.plays.map TrayPlay.cells),.i r.2.run.steps,.i r.2.run.end_]),(w10,.cells (r.2.pins.map cB).flatten),(w11,.row 160 r.2.run.spells.length),(w12,.row 71 r.2.run.plays.length)]) (.inr rfl) ?_ (.refl _) (Option.some.inj hM) hS 0 rfl
   exact (zaJ (zau (x:=.b false) rfl))
  ·replace hM:=ifF hM hb5
   refine Cf hb5 ?_
   refine zaI ?_
   refine Ws ?_
   refine Sq ?_
   refine Rg 11 ?_
   refine Om (.ptr p1 0) ?_
   refine Om (.ptr p1 0) ?_
   refine zbQ (by decide) rfl ?_
   refine zan (by decide) zdY rfl ?_
   refine zbJ (v:=.sl .no 2 (r1.2.queue.map TrayPress.cells)) 0 hS (by decide) rfl rfl .no (po zcJ zdq) ?_
   obtain ⟨x6,hx6,hM⟩:=zap hM
   refine zbr (xs:=r1.2.queue) (f:=TrayPress.cells) (z:=0) (u:=x6) (by decide) rfl rfl zdP hx6 ?_
   refine Of ([.i x6.Side,.i x6.Time]) zfq ?_
   refine Olp (.i x6.Time) zai zas ?_
   refine zbQ (by decide) rfl ?_
   refine zan (by decide) zdZ rfl ?_
   refine zbC (v:=.i x6.Time) (ns:=[.i x6.Time]) (L':=[(p1,.cells [.sl .no 2 (r1.2.t.Records.map TrayRecord.cells),.i r1.2.t.At,.i r1.2.t.Way,.i r1.2.t.Step,.sl .no 2 (r1.2.t.Presses.map TrayPress.cells),.sl .no 2 (r1.2.queue.map TrayPress.cells),.ms w10 0 1 (2*r1.2.t.Records.length) (2*r1.2.t.Records.length),.i x6.Time,.i r1.2.at_.At,.i r1.2.at_.Way,.i r1.2.at_.Side,.sl (.id w11) 4 (r1.2.run.spells.map Spell_.cells),.sl (.id w12) 2 (r1.2.run.plays.map TrayPlay.cells),.i r1.2.run.steps,.i r1.2.run.end_]),(w10,.cells (r1.2.pins.map cB).flatten),(w11,.row 160 r1.2.run.spells.length),(w12,.row 71 r1.2.run.plays.length)]) 0 hS rfl rfl .no rfl rfl zdO nlb rfl fun H hS=>?_
   refine Ni ?_
   refine Ws ?_
   refine Sq ?_
   refine Rg 1 ?_
   refine Oa (.b true) ?_
   refine Ni ?_
   refine Ws ?_
   refine zbB ?_
   refine zay ?_
   refine zfF (x:=.b true) (f:=fun r=>.b r.1) (fd:=fun r=>[(p1,.cells [.sl .no 2 (r.2.t.Records.map TrayRecord.cells),.i r.2.t.At,.i r.2.t.Way,.i r.2.t.Step,.sl .no 2 (r.2.t.Presses.map TrayPress.cells),.sl .no 2 (r.2.queue.map TrayPress.cells),.ms w10 0 1 (2*r.2.t.Records.length) (2*r.2.t.Records.length),.i r.2.now,.i r.2.at_.At,.i r.2.at_.Way,.i r.2.at_.Side,.sl (.id w11) 4 (r.2.run.spells.map Spell_.cells),.sl (.id w12) 2 (r.2.run.plays.map TrayPlay.cells),.i r.2.run.steps,.i r.2.run.end_]),(w10,.cells (r.2.pins.map cB).flatten),(w11,.row 160 r.2.run.spells.length),(w12,.row 71 r.2.run.plays.length)]) (.inr rfl) ?_ (.refl _) (Option.some.inj hM) hS 0 rfl
   exact (zaJ (zau (x:=.b true) rfl))
 ·replace hM:=ifF hM hb4
  refine Cf hb4 ?_
  refine zaI ?_
  refine Ws ?_
  refine Sq ?_
  refine Rg 7 ?_
  refine Om (.ptr p1 0) ?_
  refine zbQ (by decide) rfl ?_
  refine zan (by decide) zd0 rfl ?_
  refine zan (by decide) zhz rfl ?_
  refine zbJ (v:=.i r1.2.at_.At) 0 hS (by decide) rfl rfl .no (po zai zas) ?_
  refine Oi (.i (w64 (2*r1.2.at_.At))) ?_
  refine Oa (.i (w64 (2*r1.2.at_.At))) ?_
  refine Ni ?_
  refine Ws ?_
  refine zaY (J:=Int) (fun j=>[(0,.ptr p1 0),(3,.i j)]) (fun j H' g'=>St (fun i=>i<g/\i∉ids [(p1,.cells [.sl .no 2 (st.t.Records.map TrayRecord.cells),.i st.t.At,.i st.t.Way,.i st.t.Step,.sl .no 2 (st.t.Presses.map TrayPress.cells),.sl .no 2 (st.queue.map TrayPress.cells),.ms w10 0 1 (2*st.t.Records.length) (2*st.t.Records.length),.i st.now,.i st.at_.At,.i st.at_.Way,.i st.at_.Side,.sl (.id w11) 4 (st.run.spells.map Spell_.cells),.sl (.id w12) 2 (st.run.plays.map TrayPlay.cells),.i st.run.steps,.i st.run.end_]),(w10,.cells (st.pins.map cB).flatten),(w11,.row 160 st.run.spells.length),(w12,.row 71 st.run.plays.length)]) H0 [(p1,.cells [.sl .no 2 (r1.2.t.Records.map TrayRecord.cells),.i r1.2.t.At,.i r1.2.t.Way,.i r1.2.t.Step,.sl .no 2 (r1.2.t.Presses.map TrayPress.cells),.sl .no 2 (r1.2.queue.map TrayPress.cells),.ms w10 0 1 (2*r1.2.t.Records.length) (2*r1.2.t.Records.length),.i r1.2.now,.i r1.2.at_.At,.i r1.2.at_.Way,.i r1.2.at_.Side,.sl (.id w11) 4 (r1.2.run.spells.map Spell_.cells),.sl (.id w12) 2 (r1.2.run.plays.map TrayPlay.cells),.i r1.2.run.steps,.i r1.2.run.end_]),(w10,.cells (r1.2.pins.map cB).flatten),(w11,.row 160 r1.2.run.spells.length),(w12,.row 71 r1.2.run.plays.length)] H' g'/\zcf r1 j=some r) ?_ ?_
  ·rintro v7 H g1 ⟨hS,hM⟩
   change wpA _ _ _ _ (Fr.of [(0,.ptr p1 0),(3,.i v7)]) _ _
   replace hS:St (fun i=>i<g/\i∉ids [(p1,.cells [.sl .no 2 (st.t.Records.map TrayRecord.cells),.i st.t.At,.i st.t.Way,.i st.t.Step,.sl .no 2 (st.t.Presses.map TrayPress.cells),.sl .no 2 (st.queue.map TrayPress.cells),.ms w10 0 1 (2*st.t.Records.length) (2*st.t.Records.length),.i st.now,.i st.at_.At,.i st.at_.Way,.i st.at_.Side,.sl (.id w11) 4 (st.run.spells.map Spell_.cells),.sl (.id w12) 2 (st.run.plays.map TrayPlay.cells),.i st.run.steps,.i st.run.end_]),(w10,.cells (st.pins.map cB).flatten),(w11,.row 160 st.run.spells.length),(w12,.row 71 st.run.plays.length)]) H0 [(p1,.cells [.sl .no 2 (r1.2.t.Records.map TrayRecord.cells),.i r1.2.t.At,.i r1.2.t.Way,.i r1.2.t.Step,.sl .no 2 (r1.2.t.Presses.map TrayPress.cells),.sl .no 2 (r1.2.queue.map TrayPress.cells),.ms w10 0 1 (2*r1.2.t.Records.length) (2*r1.2.t.Records.length),.i r1.2.now,.i r1.2.at_.At,.i r1.2.at_.Way,.i r1.2.at_.Side,.sl (.id w11) 4 (r1.2.run.spells.map Spell_.cells),.sl (.id w12) 2 (r1.2.run.plays.map TrayPlay.cells),.i r1.2.run.steps,.i r1.2.run.end_]),(w10,.cells (r1.2.pins.map cB).flatten),(w11,.row 160 r1.2.run.spells.length),(w12,.row 71 r1.2.run.plays.length)] H g1:=hS
   replace hM:zcf r1 v7=some r:=hM
   refine zaY (J:=(List TrayRecord)×Int×Int×Int×(List TrayPress)×(List TrayPress)×Int×Int×Int×Int×(List Spell_)×(List TrayPlay)×Int×Int×(List Bool)) (fun j=>[(0,.ptr p1 0)]) (fun j H' g'=>St (fun i=>i<g/\i∉ids [(p1,.cells [.sl .no 2 (st.t.Records.map TrayRecord.cells),.i st.t.At,.i st.t.Way,.i st.t.Step,.sl .no 2 (st.t.Presses.map TrayPress.cells),.sl .no 2 (st.queue.map TrayPress.cells),.ms w10 0 1 (2*st.t.Records.length) (2*st.t.Records.length),.i st.now,.i st.at_.At,.i st.at_.Way,.i st.at_.Side,.sl (.id w11) 4 (st.run.spells.map Spell_.cells),.sl (.id w12) 2 (st.run.plays.map TrayPlay.cells),.i st.run.steps,.i st.run.end_]),(w10,.cells (st.pins.map cB).flatten),(w11,.row 160 st.run.spells.length),(w12,.row 71 st.run.plays.length)]) H0 [(p1,.cells [.sl .no 2 (j.1.map TrayRecord.cells),.i j.2.1,.i j.2.2.1,.i j.2.2.2.1,.sl .no 2 (j.2.2.2.2.1.map TrayPress.cells),.sl .no 2 (j.2.2.2.2.2.1.map TrayPress.cells),.ms w10 0 1 (2*j.1.length) (2*j.1.length),.i j.2.2.2.2.2.2.1,.i j.2.2.2.2.2.2.2.1,.i j.2.2.2.2.2.2.2.2.1,.i j.2.2.2.2.2.2.2.2.2.1,.sl (.id w11) 4 (j.2.2.2.2.2.2.2.2.2.2.1.map Spell_.cells),.sl (.id w12) 2 (j.2.2.2.2.2.2.2.2.2.2.2.1.map TrayPlay.cells),.i j.2.2.2.2.2.2.2.2.2.2.2.2.1,.i j.2.2.2.2.2.2.2.2.2.2.2.2.2.1]),(w10,.cells (j.2.2.2.2.2.2.2.2.2.2.2.2.2.2.map cB).flatten),(w11,.row 160 j.2.2.2.2.2.2.2.2.2.2.1.length),(w12,.row 71 j.2.2.2.2.2.2.2.2.2.2.2.1.length)] H' g'/\zce j.1 j.2.1 j.2.2.1 j.2.2.2.1 j.2.2.2.2.1 j.2.2.2.2.2.1 j.2.2.2.2.2.2.1 j.2.2.2.2.2.2.2.1 j.2.2.2.2.2.2.2.2.1 j.2.2.2.2.2.2.2.2.2.1 j.2.2.2.2.2.2.2.2.2.2.1 j.2.2.2.2.2.2.2.2.2.2.2.1 j.2.2.2.2.2.2.2.2.2.2.2.2.1 j.2.2.2.2.2.2.2.2.2.2.2.2.2.1 j.2.2.2.2.2.2.2.2.2.2.2.2.2.2=some r) ?_ ?_
   ·rintro ⟨v8,v9,v10,v11,v12,v13,v14,v15,v16,v17,v18,v19,v20,v21,v22⟩ H g2 ⟨hS,hM⟩
    change wpA _ _ _ _ (Fr.of [(0,.ptr p1 0)]) _ _
    replace hS:St (fun i=>i<g/\i∉ids [(p1,.cells [.sl .no 2 (st.t.Records.map TrayRecord.cells),.i st.t.At,.i st.t.Way,.i st.t.Step,.sl .no 2 (st.t.Presses.map TrayPress.cells),.sl .no 2 (st.queue.map TrayPress.cells),.ms w10 0 1 (2*st.t.Records.length) (2*st.t.Records.length),.i st.now,.i st.at_.At,.i st.at_.Way,.i st.at_.Side,.sl (.id w11) 4 (st.run.spells.map Spell_.cells),.sl (.id w12) 2 (st.run.plays.map TrayPlay.cells),.i st.run.steps,.i st.run.end_]),(w10,.cells (st.pins.map cB).flatten),(w11,.row 160 st.run.spells.length),(w12,.row 71 st.run.plays.length)]) H0 [(p1,.cells [.sl .no 2 (v8.map TrayRecord.cells),.i v9,.i v10,.i v11,.sl .no 2 (v12.map TrayPress.cells),.sl .no 2 (v13.map TrayPress.cells),.ms w10 0 1 (2*v8.length) (2*v8.length),.i v14,.i v15,.i v16,.i v17,.sl (.id w11) 4 (v18.map Spell_.cells),.sl (.id w12) 2 (v19.map TrayPlay.cells),.i v20,.i v21]),(w10,.cells (v22.map cB).flatten),(w11,.row 160 v18.length),(w12,.row 71 v19.length)] H g2:=hS
    replace hM:zce v8 v9 v10 v11 v12 v13 v14 v15 v16 v17 v18 v19 v20 v21 v22=some r:=hM
    refine Sq ?_
    refine Rg 2 ?_
    refine Om (.ptr p1 0) ?_
    obtain ⟨r23,hr23,hM⟩:=zap hM
    have hndr23:=hS.nd_at (ns:=[0,1,2,3]) (M:=[(p1,.cells [.sl .no 2 (v8.map TrayRecord.cells),.i v9,.i v10,.i v11,.sl .no 2 (v12.map TrayPress.cells),.sl .no 2 (v13.map TrayPress.cells),.ms w10 0 1 (2*v8.length) (2*v8.length),.i v14,.i v15,.i v16,.i v17,.sl (.id w11) 4 (v18.map Spell_.cells),.sl (.id w12) 2 (v19.map TrayPlay.cells),.i v20,.i v21]),(w10,.cells (v22.map cB).flatten),(w11,.row 160 v18.length),(w12,.row 71 v19.length)]) (M':=[(p1,.cells [.sl .no 2 (r23.2.t.Records.map TrayRecord.cells),.i r23.2.t.At,.i r23.2.t.Way,.i r23.2.t.Step,.sl .no 2 (r23.2.t.Presses.map TrayPress.cells),.sl .no 2 (r23.2.queue.map TrayPress.cells),.ms w10 0 1 (2*r23.2.t.Records.length) (2*r23.2.t.Records.length),.i r23.2.now,.i r23.2.at_.At,.i r23.2.at_.Way,.i r23.2.at_.Side,.sl (.id w11) 4 (r23.2.run.spells.map Spell_.cells),.sl (.id w12) 2 (r23.2.run.plays.map TrayPlay.cells),.i r23.2.run.steps,.i r23.2.run.end_]),(w10,.cells (r23.2.pins.map cB).flatten),(w11,.row 160 r23.2.run.spells.length),(w12,.row 71 r23.2.run.plays.length)]) (.cons rfl (.cons rfl (.cons rfl (.cons rfl .nil)))) (by decide)
    refine zfY (bs:=[.ptr p1 0]) (M:=[(p1,.cells [.sl .no 2 (v8.map TrayRecord.cells),.i v9,.i v10,.i v11,.sl .no 2 (v12.map TrayPress.cells),.sl .no 2 (v13.map TrayPress.cells),.ms w10 0 1 (2*v8.length) (2*v8.length),.i v14,.i v15,.i v16,.i v17,.sl (.id w11) 4 (v18.map Spell_.cells),.sl (.id w12) 2 (v19.map TrayPlay.cells),.i v20,.i v21]),(w10,.cells (v22.map cB).flatten),(w11,.row 160 v18.length),(w12,.row 71 v19.length)]) (M':=[(p1,.cells [.sl .no 2 (r23.2.t.Records.map TrayRecord.cells),.i r23.2.t.At,.i r23.2.t.Way,.i r23.2.t.Step,.sl .no 2 (r23.2.t.Presses.map TrayPress.cells),.sl .no 2 (r23.2.queue.map TrayPress.cells),.ms w10 0 1 (2*r23.2.t.Records.length) (2*r23.2.t.Records.length),.i r23.2.now,.i r23.2.at_.At,.i r23.2.at_.Way,.i r23.2.at_.Side,.sl (.id w11) 4 (r23.2.run.spells.map Spell_.cells),.sl (.id w12) 2 (r23.2.run.plays.map TrayPlay.cells),.i r23.2.run.steps,.i r23.2.run.end_]),(w10,.cells (r23.2.pins.map cB).flatten),(w11,.row 160 r23.2.run.spells.length),(w12,.row 71 r23.2.run.plays.length)]) (L':=[(p1,.cells [.sl .no 2 (r23.2.t.Records.map TrayRecord.cells),.i r23.2.t.At,.i r23.2.t.Way,.i r23.2.t.Step,.sl .no 2 (r23.2.t.Presses.map TrayPress.cells),.sl .no 2 (r23.2.queue.map TrayPress.cells),.ms w10 0 1 (2*r23.2.t.Records.length) (2*r23.2.t.Records.length),.i r23.2.now,.i r23.2.at_.At,.i r23.2.at_.Way,.i r23.2.at_.Side,.sl (.id w11) 4 (r23.2.run.spells.map Spell_.cells),.sl (.id w12) 2 (r23.2.run.plays.map TrayPlay.cells),.i r23.2.run.steps,.i r23.2.run.end_]),(w10,.cells (r23.2.pins.map cB).flatten),(w11,.row 160 r23.2.run.spells.length),(w12,.row 71 r23.2.run.plays.length)]) [0,1,2,3] (.inl rfl) hS (by decide) rfl rfl ((zgv (p1:=p1) (w10:=w10) (w11:=w11) (w12:=w12) hndr23 hr23).le (.k .nil)) (.cons rfl (.cons rfl (.cons rfl (.cons rfl .nil)))) rfl (by omega) fun H hS=>?_
    refine Ni ?_
    refine Ws ?_
    refine Sq ?_
    refine Rg 1 ?_
    refine Oa (.b true) ?_
    refine Ni ?_
    refine Ws ?_
    refine zbB ?_
    refine zfF (x:=.b true) (f:=fun r=>.b r.1) (fd:=fun r=>[(p1,.cells [.sl .no 2 (r.2.t.Records.map TrayRecord.cells),.i r.2.t.At,.i r.2.t.Way,.i r.2.t.Step,.sl .no 2 (r.2.t.Presses.map TrayPress.cells),.sl .no 2 (r.2.queue.map TrayPress.cells),.ms w10 0 1 (2*r.2.t.Records.length) (2*r.2.t.Records.length),.i r.2.now,.i r.2.at_.At,.i r.2.at_.Way,.i r.2.at_.Side,.sl (.id w11) 4 (r.2.run.spells.map Spell_.cells),.sl (.id w12) 2 (r.2.run.plays.map TrayPlay.cells),.i r.2.run.steps,.i r.2.run.end_]),(w10,.cells (r.2.pins.map cB).flatten),(w11,.row 160 r.2.run.spells.length),(w12,.row 71 r.2.run.plays.length)]) (.inr rfl) ?_ (.refl _) (Option.some.inj hM) hS 0 rfl
    exact (zaJ (zau (x:=.b true) rfl))
   ·refine Sq ?_
    refine Rg 7 ?_
    refine Om (.ptr p1 0) ?_
    refine zbQ (by decide) rfl ?_
    refine zan (by decide) zgq rfl ?_
    refine zbJ (v:=.ms w10 0 1 (2*r1.2.t.Records.length) (2*r1.2.t.Records.length)) 0 hS (by decide) rfl rfl .no (po zhf zhV) ?_
    refine Om (.i v7) ?_
    obtain ⟨x24,hx24,hM⟩:=zap hM
    refine zbv (xs:=r1.2.pins) (z:=v7) (u:=x24) (by decide) rfl (zbw hx24) rfl zgo (zaz hx24) ?_
    refine zex (f:=cB) (xs:=r1.2.pins) (z:=v7) (u:=x24) (c:=.b x24) 1 hS (by decide) rfl rfl (zaz hx24) .no (fun _=>rfl) rfl znd zoN ?_
    refine Ni ?_
    refine Ws ?_
    rcases bft x24 with hb25 | hb25
    ·replace hM:=ifT hM hb25
     refine Ct hb25 ?_
     refine Sq ?_
     refine Rg 7 ?_
     refine Om (.ptr p1 0) ?_
     refine zbQ (by decide) rfl ?_
     refine zan (by decide) zgq rfl ?_
     refine zbJ (v:=.ms w10 0 1 (2*r1.2.t.Records.length) (2*r1.2.t.Records.length)) 0 hS (by decide) rfl rfl .no (po zhf zhV) ?_
     refine Om (.i v7) ?_
     obtain ⟨x26,hx26,hM⟩:=zap hM
     refine zbv (xs:=r1.2.pins) (z:=v7) (u:=x26) (by decide) rfl (zbw hx26) rfl zgo (zaz hx26) ?_
     refine zen (f:=cB) (k:=1) (xs:=r1.2.pins) (z:=v7) (u:=x26) (w:=false) (v:=.b false) (L':=[(p1,.cells [.sl .no 2 (r1.2.t.Records.map TrayRecord.cells),.i r1.2.t.At,.i r1.2.t.Way,.i r1.2.t.Step,.sl .no 2 (r1.2.t.Presses.map TrayPress.cells),.sl .no 2 (r1.2.queue.map TrayPress.cells),.ms w10 0 1 (2*r1.2.t.Records.length) (2*r1.2.t.Records.length),.i r1.2.now,.i r1.2.at_.At,.i r1.2.at_.Way,.i r1.2.at_.Side,.sl (.id w11) 4 (r1.2.run.spells.map Spell_.cells),.sl (.id w12) 2 (r1.2.run.plays.map TrayPlay.cells),.i r1.2.run.steps,.i r1.2.run.end_]),(w10,.cells ((r1.2.pins.set (Int.toNat v7) false).map cB).flatten),(w11,.row 160 r1.2.run.spells.length),(w12,.row 71 r1.2.run.plays.length)]) 1 hS rfl rfl (zaz hx26) .no (fun _=>rfl) rfl rfl zne rfl fun H hS=>?_
     refine Ni ?_
     refine Ws ?_
     refine Sq ?_
     have hS0:=hS
     refine zdb (n:=18) rfl (by kernel_rfl) ?_
     refine Om (.ptr p1 0) ?_
     refine Om (.ptr p1 0) ?_
     refine zbQ (by decide) rfl ?_
     refine zan (by decide) zd1 rfl ?_
     refine zan (by decide) zi5 rfl ?_
     refine zbJ (v:=.sl (.id w12) 2 (r1.2.run.plays.map TrayPlay.cells)) 0 hS (by decide) rfl rfl (.st hS0 0 rfl (by omega)) (po zlq znk) ?_
     refine Om (.i v7) ?_
     refine Om (.ptr p1 0) ?_
     refine zbQ (by decide) rfl ?_
     refine zan (by decide) zdZ rfl ?_
     refine zbJ (v:=.i r1.2.now) 0 hS (by decide) rfl rfl (.st hS0 0 rfl (by omega)) (po zai zas) ?_
     refine zd3 (cs:=[.i v7,.i r1.2.now]) (by decide) znn zpl rfl ?_
     refine zcz (es:=[[.i v7,.i r1.2.now]]) hS (by decide) zjA znl rfl znm rfl (by decide) (by omega) fun H hS=>?_
     obtain ⟨l27,hl27,hM⟩:=zap hM
     refine zg0 (xs:=r1.2.run.plays) (ys:=([(⟨v7,r1.2.now⟩:TrayPlay)]:List TrayPlay)) (zs:=l27) (f:=TrayPlay.cells) (L':=[(g1+7+7+12,.row 71 1),(p1,.cells [.sl .no 2 (r1.2.t.Records.map TrayRecord.cells),.i r1.2.t.At,.i r1.2.t.Way,.i r1.2.t.Step,.sl .no 2 (r1.2.t.Presses.map TrayPress.cells),.sl .no 2 (r1.2.queue.map TrayPress.cells),.ms w10 0 1 (2*r1.2.t.Records.length) (2*r1.2.t.Records.length),.i r1.2.now,.i r1.2.at_.At,.i r1.2.at_.Way,.i r1.2.at_.Side,.sl (.id w11) 4 (r1.2.run.spells.map Spell_.cells),.sl (.id w12) 2 (r1.2.run.plays.map TrayPlay.cells),.i r1.2.run.steps,.i r1.2.run.end_]),(w10,.cells ((r1.2.pins.set (Int.toNat v7) false).map cB).flatten),(w11,.row 160 r1.2.run.spells.length),(w12,.row 71 l27.length)]) 4 hS (by decide) rfl rfl rfl rfl (.st hS0 3 rfl (by omega)) zjA znl znm hl27 rfl fun H hS=>?_
     refine zbQ (by decide) rfl ?_
     refine zan (by decide) zd1 rfl ?_
     refine zan (by decide) zi5 rfl ?_
     refine zbC (v:=.sl (.id w12) 2 (l27.map TrayPlay.cells)) (ns:=[.sl (.id w12) 2 (l27.map TrayPlay.cells)]) (L':=[(g1+7+7+12,.row 71 1),(p1,.cells [.sl .no 2 (r1.2.t.Records.map TrayRecord.cells),.i r1.2.t.At,.i r1.2.t.Way,.i r1.2.t.Step,.sl .no 2 (r1.2.t.Presses.map TrayPress.cells),.sl .no 2 (r1.2.queue.map TrayPress.cells),.ms w10 0 1 (2*r1.2.t.Records.length) (2*r1.2.t.Records.length),.i r1.2.now,.i r1.2.at_.At,.i r1.2.at_.Way,.i r1.2.at_.Side,.sl (.id w11) 4 (r1.2.run.spells.map Spell_.cells),.sl (.id w12) 2 (l27.map TrayPlay.cells),.i r1.2.run.steps,.i r1.2.run.end_]),(w10,.cells ((r1.2.pins.set (Int.toNat v7) false).map cB).flatten),(w11,.row 160 r1.2.run.spells.length),(w12,.row 71 l27.length)]) 1 hS rfl rfl (.st hS0 0 rfl (by omega)) rfl rfl zoe nlb rfl fun H hS=>?_
     refine Ni ?_
     replace hS:=hS.keep (L':=[(p1,.cells [.sl .no 2 (r1.2.t.Records.map TrayRecord.cells),.i r1.2.t.At,.i r1.2.t.Way,.i r1.2.t.Step,.sl .no 2 (r1.2.t.Presses.map TrayPress.cells),.sl .no 2 (r1.2.queue.map TrayPress.cells),.ms w10 0 1 (2*r1.2.t.Records.length) (2*r1.2.t.Records.length),.i r1.2.now,.i r1.2.at_.At,.i r1.2.at_.Way,.i r1.2.at_.Side,.sl (.id w11) 4 (r1.2.run.spells.map Spell_.cells),.sl (.id w12) 2 (l27.map TrayPlay.cells),.i r1.2.run.steps,.i r1.2.run.end_]),(w10,.cells ((r1.2.pins.set (Int.toNat v7) false).map cB).flatten),(w11,.row 160 r1.2.run.spells.length),(w12,.row 71 l27.length)]) [false,true,true,true,true] rfl
     refine Ws ?_
     refine Sq ?_
     refine Rg 3 ?_
     refine Om (.ptr p1 0) ?_
     refine Om (.i v7) ?_
     obtain ⟨r28,hr28,hM⟩:=zap hM
     have hndr28:=hS.nd_at (ns:=[0,1,2,3]) (M:=[(p1,.cells [.sl .no 2 (r1.2.t.Records.map TrayRecord.cells),.i r1.2.t.At,.i r1.2.t.Way,.i r1.2.t.Step,.sl .no 2 (r1.2.t.Presses.map TrayPress.cells),.sl .no 2 (r1.2.queue.map TrayPress.cells),.ms w10 0 1 (2*r1.2.t.Records.length) (2*r1.2.t.Records.length),.i r1.2.now,.i r1.2.at_.At,.i r1.2.at_.Way,.i r1.2.at_.Side,.sl (.id w11) 4 (r1.2.run.spells.map Spell_.cells),.sl (.id w12) 2 (l27.map TrayPlay.cells),.i r1.2.run.steps,.i r1.2.run.end_]),(w10,.cells ((r1.2.pins.set (Int.toNat v7) false).map cB).flatten),(w11,.row 160 r1.2.run.spells.length),(w12,.row 71 l27.length)]) (M':=[(p1,.cells [.sl .no 2 (r28.2.t.Records.map TrayRecord.cells),.i r28.2.t.At,.i r28.2.t.Way,.i r28.2.t.Step,.sl .no 2 (r28.2.t.Presses.map TrayPress.cells),.sl .no 2 (r28.2.queue.map TrayPress.cells),.ms w10 0 1 (2*r28.2.t.Records.length) (2*r28.2.t.Records.length),.i r28.2.now,.i r28.2.at_.At,.i r28.2.at_.Way,.i r28.2.at_.Side,.sl (.id w11) 4 (r28.2.run.spells.map Spell_.cells),.sl (.id w12) 2 (r28.2.run.plays.map TrayPlay.cells),.i r28.2.run.steps,.i r28.2.run.end_]),(w10,.cells (r28.2.pins.map cB).flatten),(w11,.row 160 r28.2.run.spells.length),(w12,.row 71 r28.2.run.plays.length)]) (.cons rfl (.cons rfl (.cons rfl (.cons rfl .nil)))) (by decide)
     refine zfY (bs:=[.ptr p1 0,.i v7]) (M:=[(p1,.cells [.sl .no 2 (r1.2.t.Records.map TrayRecord.cells),.i r1.2.t.At,.i r1.2.t.Way,.i r1.2.t.Step,.sl .no 2 (r1.2.t.Presses.map TrayPress.cells),.sl .no 2 (r1.2.queue.map TrayPress.cells),.ms w10 0 1 (2*r1.2.t.Records.length) (2*r1.2.t.Records.length),.i r1.2.now,.i r1.2.at_.At,.i r1.2.at_.Way,.i r1.2.at_.Side,.sl (.id w11) 4 (r1.2.run.spells.map Spell_.cells),.sl (.id w12) 2 (l27.map TrayPlay.cells),.i r1.2.run.steps,.i r1.2.run.end_]),(w10,.cells ((r1.2.pins.set (Int.toNat v7) false).map cB).flatten),(w11,.row 160 r1.2.run.spells.length),(w12,.row 71 l27.length)]) (M':=[(p1,.cells [.sl .no 2 (r28.2.t.Records.map TrayRecord.cells),.i r28.2.t.At,.i r28.2.t.Way,.i r28.2.t.Step,.sl .no 2 (r28.2.t.Presses.map TrayPress.cells),.sl .no 2 (r28.2.queue.map TrayPress.cells),.ms w10 0 1 (2*r28.2.t.Records.length) (2*r28.2.t.Records.length),.i r28.2.now,.i r28.2.at_.At,.i r28.2.at_.Way,.i r28.2.at_.Side,.sl (.id w11) 4 (r28.2.run.spells.map Spell_.cells),.sl (.id w12) 2 (r28.2.run.plays.map TrayPlay.cells),.i r28.2.run.steps,.i r28.2.run.end_]),(w10,.cells (r28.2.pins.map cB).flatten),(w11,.row 160 r28.2.run.spells.length),(w12,.row 71 r28.2.run.plays.length)]) (L':=[(p1,.cells [.sl .no 2 (r28.2.t.Records.map TrayRecord.cells),.i r28.2.t.At,.i r28.2.t.Way,.i r28.2.t.Step,.sl .no 2 (r28.2.t.Presses.map TrayPress.cells),.sl .no 2 (r28.2.queue.map TrayPress.cells),.ms w10 0 1 (2*r28.2.t.Records.length) (2*r28.2.t.Records.length),.i r28.2.now,.i r28.2.at_.At,.i r28.2.at_.Way,.i r28.2.at_.Side,.sl (.id w11) 4 (r28.2.run.spells.map Spell_.cells),.sl (.id w12) 2 (r28.2.run.plays.map TrayPlay.cells),.i r28.2.run.steps,.i r28.2.run.end_]),(w10,.cells (r28.2.pins.map cB).flatten),(w11,.row 160 r28.2.run.spells.length),(w12,.row 71 r28.2.run.plays.length)]) [0,1,2,3] (.inl rfl) hS (by decide) rfl rfl ((zcH (p1:=p1) (w10:=w10) (w11:=w11) (w12:=w12) hndr28 hr28).le (.k (.k .nil))) (.cons rfl (.cons rfl (.cons rfl (.cons rfl .nil)))) rfl (by omega) fun H hS=>?_
     refine Ni ?_
     refine Ws ?_
     refine Sq ?_
     have hS0:=hS
     refine zdb (n:=14) rfl (by kernel_rfl) ?_
     refine Om (.ptr p1 0) ?_
     refine zbQ (by decide) rfl ?_
     refine zan (by decide) zdZ rfl ?_
     refine zbJ (v:=.i r28.2.now) 0 hS (by decide) rfl rfl (.st hS0 0 rfl (by omega)) (po zai zas) ?_
     refine Om (.ptr p1 0) ?_
     refine zbQ (by decide) rfl ?_
     refine zan (by decide) zhA rfl ?_
     refine zbJ (v:=.agg (Tray.cells r28.2.t)) 0 hS (by decide) rfl rfl (.st hS0 0 rfl (by omega)) (pg zdr) ?_
     refine Om (.i v7) ?_
     obtain ⟨r29,hr29,hM⟩:=zap hM
     refine zbo (bs:=[.agg (Tray.cells r28.2.t),.i v7]) (by decide) rfl rfl ((zkQ hr29).le (.k (.k .nil))) ?_
     refine Oi (.i (w64 (r28.2.now+r29))) ?_
     refine zbQ (by decide) rfl ?_
     refine zan (by decide) zdZ rfl ?_
     refine zbC (v:=.i (w64 (r28.2.now+r29))) (ns:=[.i (w64 (r28.2.now+r29))]) (L':=[(p1,.cells [.sl .no 2 (r28.2.t.Records.map TrayRecord.cells),.i r28.2.t.At,.i r28.2.t.Way,.i r28.2.t.Step,.sl .no 2 (r28.2.t.Presses.map TrayPress.cells),.sl .no 2 (r28.2.queue.map TrayPress.cells),.ms w10 0 1 (2*r28.2.t.Records.length) (2*r28.2.t.Records.length),.i (w64 (r28.2.now+r29)),.i r28.2.at_.At,.i r28.2.at_.Way,.i r28.2.at_.Side,.sl (.id w11) 4 (r28.2.run.spells.map Spell_.cells),.sl (.id w12) 2 (r28.2.run.plays.map TrayPlay.cells),.i r28.2.run.steps,.i r28.2.run.end_]),(w10,.cells (r28.2.pins.map cB).flatten),(w11,.row 160 r28.2.run.spells.length),(w12,.row 71 r28.2.run.plays.length)]) 0 hS rfl rfl (.st hS0 0 rfl (by omega)) rfl rfl zdO nlb rfl fun H hS=>?_
     refine Ni ?_
     refine Ws ?_
     refine Sq ?_
     refine Rg 9 ?_
     refine Om (.ptr p1 0) ?_
     refine Om (.ptr p1 0) ?_
     refine zbQ (by decide) rfl ?_
     refine zan (by decide) zdZ rfl ?_
     refine zbJ (v:=.i (w64 (r28.2.now+r29))) 0 hS (by decide) rfl rfl .no (po zai zas) ?_
     refine zbQ (by decide) rfl ?_
     refine zan (by decide) zd1 rfl ?_
     refine zan (by decide) zmd rfl ?_
     refine zbC (v:=.i (w64 (r28.2.now+r29))) (ns:=[.i (w64 (r28.2.now+r29))]) (L':=[(p1,.cells [.sl .no 2 (r28.2.t.Records.map TrayRecord.cells),.i r28.2.t.At,.i r28.2.t.Way,.i r28.2.t.Step,.sl .no 2 (r28.2.t.Presses.map TrayPress.cells),.sl .no 2 (r28.2.queue.map TrayPress.cells),.ms w10 0 1 (2*r28.2.t.Records.length) (2*r28.2.t.Records.length),.i (w64 (r28.2.now+r29)),.i r28.2.at_.At,.i r28.2.at_.Way,.i r28.2.at_.Side,.sl (.id w11) 4 (r28.2.run.spells.map Spell_.cells),.sl (.id w12) 2 (r28.2.run.plays.map TrayPlay.cells),.i r28.2.run.steps,.i (w64 (r28.2.now+r29))]),(w10,.cells (r28.2.pins.map cB).flatten),(w11,.row 160 r28.2.run.spells.length),(w12,.row 71 r28.2.run.plays.length)]) 0 hS rfl rfl .no rfl rfl zdO nlb rfl fun H hS=>?_
     refine Ni ?_
     refine Ws ?_
     refine Rg 2 ?_
     refine Om (.ptr p1 0) ?_
     obtain ⟨r30,hr30,hM⟩:=zap hM
     have hndr30:=hS.nd_at (ns:=[0,1,2,3]) (M:=[(p1,.cells [.sl .no 2 (r28.2.t.Records.map TrayRecord.cells),.i r28.2.t.At,.i r28.2.t.Way,.i r28.2.t.Step,.sl .no 2 (r28.2.t.Presses.map TrayPress.cells),.sl .no 2 (r28.2.queue.map TrayPress.cells),.ms w10 0 1 (2*r28.2.t.Records.length) (2*r28.2.t.Records.length),.i (w64 (r28.2.now+r29)),.i r28.2.at_.At,.i r28.2.at_.Way,.i r28.2.at_.Side,.sl (.id w11) 4 (r28.2.run.spells.map Spell_.cells),.sl (.id w12) 2 (r28.2.run.plays.map TrayPlay.cells),.i r28.2.run.steps,.i (w64 (r28.2.now+r29))]),(w10,.cells (r28.2.pins.map cB).flatten),(w11,.row 160 r28.2.run.spells.length),(w12,.row 71 r28.2.run.plays.length)]) (M':=[(p1,.cells [.sl .no 2 (r30.2.t.Records.map TrayRecord.cells),.i r30.2.t.At,.i r30.2.t.Way,.i r30.2.t.Step,.sl .no 2 (r30.2.t.Presses.map TrayPress.cells),.sl .no 2 (r30.2.queue.map TrayPress.cells),.ms w10 0 1 (2*r30.2.t.Records.length) (2*r30.2.t.Records.length),.i r30.2.now,.i r30.2.at_.At,.i r30.2.at_.Way,.i r30.2.at_.Side,.sl (.id w11) 4 (r30.2.run.spells.map Spell_.cells),.sl (.id w12) 2 (r30.2.run.plays.map TrayPlay.cells),.i r30.2.run.steps,.i r30.2.run.end_]),(w10,.cells (r30.2.pins.map cB).flatten),(w11,.row 160 r30.2.run.spells.length),(w12,.row 71 r30.2.run.plays.length)]) (.cons rfl (.cons rfl (.cons rfl (.cons rfl .nil)))) (by decide)
     refine zfY (bs:=[.ptr p1 0,.i (-1)]) (M:=[(p1,.cells [.sl .no 2 (r28.2.t.Records.map TrayRecord.cells),.i r28.2.t.At,.i r28.2.t.Way,.i r28.2.t.Step,.sl .no 2 (r28.2.t.Presses.map TrayPress.cells),.sl .no 2 (r28.2.queue.map TrayPress.cells),.ms w10 0 1 (2*r28.2.t.Records.length) (2*r28.2.t.Records.length),.i (w64 (r28.2.now+r29)),.i r28.2.at_.At,.i r28.2.at_.Way,.i r28.2.at_.Side,.sl (.id w11) 4 (r28.2.run.spells.map Spell_.cells),.sl (.id w12) 2 (r28.2.run.plays.map TrayPlay.cells),.i r28.2.run.steps,.i (w64 (r28.2.now+r29))]),(w10,.cells (r28.2.pins.map cB).flatten),(w11,.row 160 r28.2.run.spells.length),(w12,.row 71 r28.2.run.plays.length)]) (M':=[(p1,.cells [.sl .no 2 (r30.2.t.Records.map TrayRecord.cells),.i r30.2.t.At,.i r30.2.t.Way,.i r30.2.t.Step,.sl .no 2 (r30.2.t.Presses.map TrayPress.cells),.sl .no 2 (r30.2.queue.map TrayPress.cells),.ms w10 0 1 (2*r30.2.t.Records.length) (2*r30.2.t.Records.length),.i r30.2.now,.i r30.2.at_.At,.i r30.2.at_.Way,.i r30.2.at_.Side,.sl (.id w11) 4 (r30.2.run.spells.map Spell_.cells),.sl (.id w12) 2 (r30.2.run.plays.map TrayPlay.cells),.i r30.2.run.steps,.i r30.2.run.end_]),(w10,.cells (r30.2.pins.map cB).flatten),(w11,.row 160 r30.2.run.spells.length),(w12,.row 71 r30.2.run.plays.length)]) (L':=[(p1,.cells [.sl .no 2 (r30.2.t.Records.map TrayRecord.cells),.i r30.2.t.At,.i r30.2.t.Way,.i r30.2.t.Step,.sl .no 2 (r30.2.t.Presses.map TrayPress.cells),.sl .no 2 (r30.2.queue.map TrayPress.cells),.ms w10 0 1 (2*r30.2.t.Records.length) (2*r30.2.t.Records.length),.i r30.2.now,.i r30.2.at_.At,.i r30.2.at_.Way,.i r30.2.at_.Side,.sl (.id w11) 4 (r30.2.run.spells.map Spell_.cells),.sl (.id w12) 2 (r30.2.run.plays.map TrayPlay.cells),.i r30.2.run.steps,.i r30.2.run.end_]),(w10,.cells (r30.2.pins.map cB).flatten),(w11,.row 160 r30.2.run.spells.length),(w12,.row 71 r30.2.run.plays.length)]) [0,1,2,3] (.inl rfl) hS (by decide) rfl rfl ((zcH (p1:=p1) (w10:=w10) (w11:=w11) (w12:=w12) hndr30 hr30).le (.k (.k .nil))) (.cons rfl (.cons rfl (.cons rfl (.cons rfl .nil)))) rfl (by omega) fun H hS=>?_
     refine Ni ?_
     exact zal (r30.2.t.Records,r30.2.t.At,r30.2.t.Way,r30.2.t.Step,r30.2.t.Presses,r30.2.queue,r30.2.now,r30.2.at_.At,r30.2.at_.Way,r30.2.at_.Side,r30.2.run.spells,r30.2.run.plays,r30.2.run.steps,r30.2.run.end_,r30.2.pins) (.k .nil) ⟨(hS.keep [true,true,true,true] rfl).up (by omega),hM⟩
    ·replace hM:=ifF hM hb25
     refine Cf hb25 ?_
     refine zaI ?_
     exact zal (r1.2.t.Records,r1.2.t.At,r1.2.t.Way,r1.2.t.Step,r1.2.t.Presses,r1.2.queue,r1.2.now,r1.2.at_.At,r1.2.at_.Way,r1.2.at_.Side,r1.2.run.spells,r1.2.run.plays,r1.2.run.steps,r1.2.run.end_,r1.2.pins) (.k .nil) ⟨(hS.keep [true,true,true,true] rfl).up (by omega),hM⟩
  ·refine Sq ?_
   refine Rg 6 ?_
   refine Om (.ptr p1 0) ?_
   refine zbQ (by decide) rfl ?_
   refine zan (by decide) zd0 rfl ?_
   refine zan (by decide) zgp rfl ?_
   refine zbJ (v:=.i r1.2.at_.Way) 0 hS (by decide) rfl rfl .no (po zai zas) ?_
   refine Oi (.b (decide (r1.2.at_.Way<0))) ?_
   refine Ni ?_
   refine Ws ?_
   rcases bft (decide (r1.2.at_.Way<0)) with hb31 | hb31
   ·replace hM:=ifT hM hb31
    refine Ct hb31 ?_
    refine Rg 3 ?_
    refine Om (.i (w64 (2*r1.2.at_.At))) ?_
    refine Oi (.i (w64 ((w64 (2*r1.2.at_.At))+1))) ?_
    refine Oa (.i (w64 ((w64 (2*r1.2.at_.At))+1))) ?_
    refine Ni ?_
    exact zal (w64 ((w64 (2*r1.2.at_.At))+1)) (.k (.k .nil)) ⟨(hS.keep [true,true,true,true] rfl).up (by omega),hM⟩
   ·replace hM:=ifF hM hb31
    refine Cf hb31 ?_
    refine zaI ?_
    exact zal (w64 (2*r1.2.at_.At)) (.k (.k .nil)) ⟨(hS.keep [true,true,true,true] rfl).up (by omega),hM⟩
end Go.Proofs.Ytclaalcoefcljaa
