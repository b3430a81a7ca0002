/-
  The code returns what the functions say (printed by gen.py).
  Conditions: none.
-/
import Derived.Test.YtclaalcoefcljaaWkTopCrossed3
import Derived.Test.YtclaalcoefcljaaAmPc
set_option linter.all false
namespace Go.Proofs.Ytclaalcoefcljaa
open Go Go.AM Go.Law
set_option linter.unusedVariables false
set_option maxRecDepth 4000
set_option maxHeartbeats 4000000
theorem zin {n:Nat} {a0:Tray} {a1:List WireFault} {r:Bool} (hM:zfV n a0 a1=some r):zaI Try.prog 4 [.agg (Tray.cells a0),.sl .no 3 (a1.map WireFault.cells)] (.b r):=by
 refine zaz mixed Try.func4 rfl (by decide) Try.ntmps4 (by simp) ?pure fun H0 g hf=>?_
 case pure=>exact .v _
 rw [zar]
 change wpA _ _ _ _ (Fr.of [(0,.agg (Tray.cells a0)),(1,.sl .no 3 (a1.map WireFault.cells))]) H0 g
 have hS:=St.start hf
 refine Sq ?_
 refine Rg 2 ?_
 refine zdI (v:=.agg (Tray.cells a0)) (cs:=(Tray.cells a0)) hS (by decide) rfl rfl (by omega) fun H hS=>?_
 refine Oa (.b false) ?_
 refine Ni ?_
 refine zb5 (L':=[]) 0 2 hS rfl rfl rfl fun H hS=>?_
 refine Ws ?_
 refine Sq ?_
 refine zaJ (J:=Bool) (fun j=>[(1,.sl .no 3 (a1.map WireFault.cells)),(2,.ep (Tray.cells a0)),(37,.b j)]) (fun j H' g'=>St (·<g) H0 [] H' g'/\zbF n a0 a1 j=some r) ?_ ?_
 ·rintro v1 H g1 ⟨hS,hM⟩
  change wpA _ _ _ _ (Fr.of [(1,.sl .no 3 (a1.map WireFault.cells)),(2,.ep (Tray.cells a0)),(37,.b v1)]) _ _
  replace hS:St (·<g) H0 [] H g1:=hS
  replace hM:zbF n a0 a1 v1=some r:=hM
  rcases bft v1 with hb2 | hb2
  ·replace hM:=ifT hM hb2
   refine Ct hb2 ?_
   refine Sq ?_
   refine Rg 2 ?_
   obtain ⟨r3,hr3,hM⟩:=zat hM
   refine zaU (bs:=[]) (by decide) rfl rfl ((zfr hr3).le .nil) ?_
   refine Oa (.b r3) ?_
   refine Ni ?_
   refine Ws ?_
   refine za8 ?_
   refine zaC ?_
   refine zbq (x:=.b r3) (f:=fun r=>.b r) (.inr rfl) ?_ (.refl _) (Option.some.inj hM) hS
   exact (zay (zau (x:=.b r3) rfl))
  ·replace hM:=ifF hM hb2
   refine Cf hb2 ?_
   refine zaF ?_
   refine Ws ?_
   refine Sq ?_
   refine Rg 6 ?_
   refine Of ((Tray.cells a0)) zbQ ?_
   refine Olp (.sl .no 2 (a0.Records.map TrayRecord.cells)) zct zde ?_
   refine zc7 (n:=a0.Records.length) (by decide) rfl (List.length_map _) zdm ?_
   refine zdJ (cs:=[.i (a0.Records.length:Int),.i 2,.sl .nil 0 [],.i 0]) (by decide) zjc zor rfl ?_
   refine zfA hS (by decide) zjc (by omega) fun H hS=>?_
   refine zbZ (v:=.agg [.i (a0.Records.length:Int),.i 2,.sl .nil 0 [],.i 0]) (ns:=[.i (a0.Records.length:Int),.i 2,.sl .nil 0 [],.i 0]) (L':=[(g1+4,.cells [.i (a0.Records.length:Int),.i 2,.sl .nil 0 [],.i 0])]) 0 hS rfl rfl .no rfl rfl zpM nlb rfl fun H hS=>?_
   refine Ni ?_
   refine zn7 (cs':=[.i (a0.Records.length:Int),.i 2,.sl .no 3 (([]:List WirePress).map WirePress.cells),.i 0]) (L':=[(g1+4,.cells [.i (a0.Records.length:Int),.i 2,.sl .no 3 (([]:List WirePress).map WirePress.cells),.i 0])]) 0 hS rfl (.k (.k (.cons (.sl0 .nil 3 0) (.k .nil)))) rfl fun H hS=>?_
   refine zb5 (L':=[]) 0 5 hS rfl rfl rfl fun H hS=>?_
   refine Ws ?_
   refine Sq ?_
   refine Sq ?_
   refine Rg 4 ?_
   refine Olg (.agg [.i (a0.Records.length:Int),.i 2,.sl .no 3 (([]:List WirePress).map WirePress.cells),.i 0]) zeX ?_
   refine Om (.sl .no 3 (a1.map WireFault.cells)) ?_
   obtain ⟨r4,hr4,hM⟩:=zat hM
   refine zaU (bs:=[.agg [.i (a0.Records.length:Int),.i 2,.sl .no 3 (([]:List WirePress).map WirePress.cells),.i 0],.sl .no 3 (a1.map WireFault.cells)]) (by decide) rfl rfl ((zkE hr4).le (.k (.k .nil))) ?_
   refine zfY (e:=r4) (by decide) rfl ?_
   refine Ni ?_
   refine Ws ?_
   rcases bft (!r4) with hb5 | hb5
   ·replace hM:=ifT hM hb5
    refine Ct hb5 ?_
    refine Sq ?_
    refine Rg 2 ?_
    obtain ⟨r6,hr6,hM⟩:=zat hM
    refine zaU (bs:=[]) (by decide) rfl rfl ((zfr hr6).le .nil) ?_
    refine Oa (.b r6) ?_
    refine Ni ?_
    refine Ws ?_
    refine za8 ?_
    refine zaC ?_
    refine zbq (x:=.b r6) (f:=fun r=>.b r) (.inr rfl) ?_ (.refl _) (Option.some.inj hM) hS
    exact (zay (zau (x:=.b r6) rfl))
   ·replace hM:=ifF hM hb5
    refine Cf hb5 ?_
    refine zaF ?_
    refine Ws ?_
    refine zaJ (J:=Unit) (fun j=>[(1,.sl .no 3 (a1.map WireFault.cells)),(2,.ep (Tray.cells a0)),(5,.ep [.i (a0.Records.length:Int),.i 2,.sl .no 3 (([]:List WirePress).map WirePress.cells),.i 0])]) (fun j H' g'=>St (·<g) H0 [] H' g'/\zdd n a0 a1=some r) ?_ ?_
    ·rintro _ H g2 ⟨hS,hM⟩
     change wpA _ _ _ _ (Fr.of [(1,.sl .no 3 (a1.map WireFault.cells)),(2,.ep (Tray.cells a0)),(5,.ep [.i (a0.Records.length:Int),.i 2,.sl .no 3 (([]:List WirePress).map WirePress.cells),.i 0])]) _ _
     replace hS:St (·<g) H0 [] H g2:=hS
     replace hM:zdd n a0 a1=some r:=hM
     refine Sq ?_
     refine Rg 4 ?_
     refine Olg (.agg (Tray.cells a0)) zc5 ?_
     obtain ⟨r7,hr7,hM⟩:=zat hM
     refine zvf (tm:=[none,(some ((.int .i64 r7.At))),(some ((.int .i64 r7.Way))),(some ((.int .i64 r7.Step))),none]) (rs:=[(75,2,r7.Records.map TrayRecord.cells),(55,2,r7.Presses.map TrayPress.cells)]) (bs:=[.agg (Tray.cells a0)]) (.inl rfl) hS (by decide) rfl rfl ((zkw hr7).le (.k .nil)) (zaf (.agg _ (zaf (.sl _ _ (zaT (fun x=>(zaf (.v _) (zaf (.v _) zaZ))))) (zaf (.v _) (zaf (.v _) (zaf (.v _) (zaf (.sl _ _ (zaT (fun x=>(zaf (.v _) (zaf (.v _) zaZ))))) zaZ)))))) zaZ) (zkk (zhK (fun x=>(zdK (zdK zhJ)))) (zkk (zhK (fun x=>(zdK (zdK zhJ)))) zqy)) rfl [.no,.ms] rfl 2 rfl (by omega) fun H hS hU=>?_
     replace hS:St (·<g) H0 ((zdX (g2+4+1) (r7.Presses.map TrayPress.cells).length (r7.Presses.map TrayPress.cells)++[])++[]) _ _:=hS
     replace hS:=hS.endM1
     change zaX _ _ _ _ _ _ _ _ (Fr.of ((62,.agg [.sl .no 2 (r7.Records.map TrayRecord.cells),.i r7.At,.i r7.Way,.i r7.Step,msn (g2+4+1) 2 (r7.Presses.map TrayPress.cells).length])::_)) _ _
     refine zpD hS hU (by decide) zjb (by omega) (by omega) (by omega) fun H hS hU=>?_
     refine zbZ (v:=.agg [.sl .no 2 (r7.Records.map TrayRecord.cells),.i r7.At,.i r7.Way,.i r7.Step,msn (g2+4+1) 2 (r7.Presses.map TrayPress.cells).length]) (ns:=[.sl .no 2 (r7.Records.map TrayRecord.cells),.i r7.At,.i r7.Way,.i r7.Step,msn (g2+4+1) 2 (r7.Presses.map TrayPress.cells).length]) (L':=([(g2+2,.cells [.sl .no 2 (r7.Records.map TrayRecord.cells),.i r7.At,.i r7.Way,.i r7.Step,msn (g2+4+1) 2 (r7.Presses.map TrayPress.cells).length])]++zdX (g2+4+1) (r7.Presses.map TrayPress.cells).length (r7.Presses.map TrayPress.cells))) 0 hS rfl rfl .no rfl rfl zkp nlb rfl fun H hS=>?_
     refine Ni ?_
     refine Ws ?_
     refine zq0 (J:=(List TrayPress)) (fun j=>[(2,.ep (Tray.cells a0)),(7,.ptr (g2+2) 0)]) (fun j H' g'=>St (·<g) H0 [(g2+2,.cells [.sl .no 2 (r7.Records.map TrayRecord.cells),.i r7.At,.i r7.Way,.i r7.Step,.sl .no 2 (j.map TrayPress.cells)])] H' g'/\zdb n a0 r7 j=some r) ?_ ?_
     ·rintro v8 H g3 ⟨hS,hM⟩
      change wpA _ _ _ _ (Fr.of [(2,.ep (Tray.cells a0)),(7,.ptr (g2+2) 0)]) _ _
      replace hS:St (·<g) H0 [(g2+2,.cells [.sl .no 2 (r7.Records.map TrayRecord.cells),.i r7.At,.i r7.Way,.i r7.Step,.sl .no 2 (v8.map TrayPress.cells)])] H g3:=hS
      replace hM:zdb n a0 r7 v8=some r:=hM
      refine Sq ?_
      refine Rg 7 ?_
      refine Olg (.agg (Tray.cells a0)) zc5 ?_
      obtain ⟨r9,hr9,hM⟩:=zat hM
      refine zaU (bs:=[.agg (Tray.cells a0)]) (by decide) rfl rfl ((zij hr9).le (.k .nil)) ?_
      refine Om (.tup [.sl .no 2 (r9.1.map TrayPlay.cells),.i r9.2]) ?_
      refine Ox (.sl .no 2 (r9.1.map TrayPlay.cells)) ?_
      refine Ox (.i r9.2) ?_
      refine Oa (.sl .no 2 (r9.1.map TrayPlay.cells)) ?_
      refine Oa (.i r9.2) ?_
      refine Ni ?_
      refine Ws ?_
      refine Sq ?_
      refine Rg 7 ?_
      refine zb1 (v:=.agg [.sl .no 2 (r7.Records.map TrayRecord.cells),.i r7.At,.i r7.Way,.i r7.Step,.sl .no 2 (v8.map TrayPress.cells)]) 0 hS (by decide) rfl rfl .no (pg zc5) ?_
      obtain ⟨r10,hr10,hM⟩:=zat hM
      refine zaU (bs:=[.agg [.sl .no 2 (r7.Records.map TrayRecord.cells),.i r7.At,.i r7.Way,.i r7.Step,.sl .no 2 (v8.map TrayPress.cells)]]) (by decide) rfl rfl ((zij hr10).le (.k .nil)) ?_
      refine Om (.tup [.sl .no 2 (r10.1.map TrayPlay.cells),.i r10.2]) ?_
      refine Ox (.sl .no 2 (r10.1.map TrayPlay.cells)) ?_
      refine Ox (.i r10.2) ?_
      refine Oa (.sl .no 2 (r10.1.map TrayPlay.cells)) ?_
      refine Oa (.i r10.2) ?_
      refine Ni ?_
      replace hS:=hS.keep (L':=[]) [false] rfl
      refine Ws ?_
      refine zaJ (J:=Bool) (fun j=>[(4,.b j)]) (fun j H' g'=>St (·<g) H0 [] H' g'/\zcI j=some r) ?_ ?_
      ·rintro v11 H g4 ⟨hS,hM⟩
       change wpA _ _ _ _ (Fr.of [(4,.b v11)]) _ _
       replace hS:St (·<g) H0 [] H g4:=hS
       replace hM:zcI v11=some r:=hM
       refine za8 ?_
       refine zbq (x:=.b v11) (f:=fun r=>.b r) (.inr rfl) ?_ (.refl _) (Option.some.inj hM) hS
       exact (zay (zau (x:=.b v11) rfl))
      ·refine Rg 15 ?_
       refine Om (.i r9.2) ?_
       refine Oi (.b (r9.2==0)) ?_
       refine Om (.b (r9.2==0)) ?_
       rcases bft (r9.2==0) with hb12 | hb12
       ·replace hM:=ifT hM hb12
        refine Oy (want:=true) hb12 ?_
        refine Om (.i r10.2) ?_
        refine Oy (want:=true) hb12 ?_
        refine Oi (.b (r10.2==0)) ?_
        refine Pt (.b (r10.2==0)) hb12 ?_
        refine Om (.b (r10.2==0)) ?_
        rcases bft (r10.2==0) with hb13 | hb13
        ·replace hM:=ifT hM hb13
         refine Oy (want:=true) hb13 ?_
         refine Om (.sl .no 2 (r9.1.map TrayPlay.cells)) ?_
         refine Oy (want:=true) hb13 ?_
         refine Om (.sl .no 2 (r10.1.map TrayPlay.cells)) ?_
         refine Oy (want:=true) hb13 ?_
         obtain ⟨r14,hr14,hM⟩:=zat hM
         refine zaU (bs:=[.sl .no 2 (r9.1.map TrayPlay.cells),.sl .no 2 (r10.1.map TrayPlay.cells)]) (by decide) rfl rfl ((zib hr14).le (.k (.k .nil))) ?_
         refine Pt (.b r14) hb13 ?_
         refine Om (.b r14) ?_
         rcases bft r14 with hb15 | hb15
         ·replace hM:=ifT hM hb15
          refine Oy (want:=true) hb15 ?_
          obtain ⟨r16,hr16,hM⟩:=zat hM
          refine zaU (bs:=[]) (by decide) rfl rfl ((zfr hr16).le .nil) ?_
          refine Pt (.b r16) hb15 ?_
          refine Oa (.b r16) ?_
          refine Ni ?_
          exact zah r16 (.k .nil) ⟨(hS.keep [] rfl).up (by omega),hM⟩
         ·replace hM:=ifF hM hb15
          refine On (want:=true) hb15 ?_
          refine Pf (.b false) hb15 ?_
          refine Oa (.b false) ?_
          refine Ni ?_
          exact zah false (.k .nil) ⟨(hS.keep [] rfl).up (by omega),hM⟩
        ·replace hM:=ifF hM hb13
         refine On (want:=true) hb13 ?_
         refine On (want:=true) hb13 ?_
         refine On (want:=true) hb13 ?_
         refine Pf (.b false) hb13 ?_
         refine Om (.b false) ?_
         refine Og ?_
         refine zbl (v:=.b false) (e:=false) (by decide) rfl rfl rfl ?_
         refine Oa (.b false) ?_
         refine Ni ?_
         exact zah false (.k .nil) ⟨(hS.keep [] rfl).up (by omega),hM⟩
       ·replace hM:=ifF hM hb12
        refine On (want:=true) hb12 ?_
        refine On (want:=true) hb12 ?_
        refine Pf (.b false) hb12 ?_
        refine Om (.b false) ?_
        refine Og ?_
        refine Og ?_
        refine Og ?_
        refine zbl (v:=.b false) (e:=false) (by decide) rfl rfl rfl ?_
        refine Om (.b false) ?_
        refine Og ?_
        refine zbl (v:=.b false) (e:=false) (by decide) rfl rfl rfl ?_
        refine Oa (.b false) ?_
        refine Ni ?_
        exact zah false (.k .nil) ⟨(hS.keep [] rfl).up (by omega),hM⟩
     ·refine Sq ?_
      refine Rg 1 ?_
      refine Oa (.i 0) ?_
      refine Ni ?_
      refine Ws ?_
      refine zas ?_
      refine zbV (V:=Int×(List TrayPress)) (fun v=>[(1,.sl .no 3 (a1.map WireFault.cells)),(2,.ep (Tray.cells a0)),(5,.ep [.i (a0.Records.length:Int),.i 2,.sl .no 3 (([]:List WirePress).map WirePress.cells),.i 0]),(7,.ptr (g2+2) 0),(8,.i v.1)]) (fun v m6 H' g'=>St (·<g) H0 ([(g2+2,.cells [.sl .no 2 (r7.Records.map TrayRecord.cells),.i r7.At,.i r7.Way,.i r7.Step,msn (g2+4+1) 2 (r7.Presses.map TrayPress.cells).length])]++zdX (g2+4+1) (r7.Presses.map TrayPress.cells).length (v.2.map TrayPress.cells)) H' g'/\za7 n a0 a1 r7 m6 v.1 v.2=some r) (n:=n) (0,r7.Presses) (.k (.k (.k (.k (.k .nil))))) ⟨(hS.keep [true] rfl).up (by omega),hM⟩ ?_
      rintro ⟨v18,v19⟩ m6 H g6 ⟨hS,hM⟩
      obtain _ | m6:=m6
      ·exact nomatch (show none=some _ from hM)
      change wpA _ _ _ _ (Fr.of [(1,.sl .no 3 (a1.map WireFault.cells)),(2,.ep (Tray.cells a0)),(5,.ep [.i (a0.Records.length:Int),.i 2,.sl .no 3 (([]:List WirePress).map WirePress.cells),.i 0]),(7,.ptr (g2+2) 0),(8,.i v18)]) _ _
      replace hS:St (·<g) H0 ([(g2+2,.cells [.sl .no 2 (r7.Records.map TrayRecord.cells),.i r7.At,.i r7.Way,.i r7.Step,msn (g2+4+1) 2 (r7.Presses.map TrayPress.cells).length])]++zdX (g2+4+1) (r7.Presses.map TrayPress.cells).length (v19.map TrayPress.cells)) H g6:=hS
      replace hM:zdk n a0 a1 r7 (za7 n a0 a1 r7 m6) v18 v19=some r:=hM
      refine Sq ?_
      refine Sq ?_
      refine Rg 5 ?_
      refine Om (.i v18) ?_
      refine Of ((Tray.cells a0)) zcW ?_
      refine Olp (.sl .no 2 (a0.Presses.map TrayPress.cells)) zcq zc1 ?_
      refine zc7 (n:=a0.Presses.length) (by decide) rfl (List.length_map _) zek ?_
      refine Oi (.b (decide (v18<(a0.Presses.length:Int)))) ?_
      refine Ni ?_
      refine Ws ?_
      rcases bft (decide (v18<(a0.Presses.length:Int))) with hb20 | hb20
      ·replace hM:=ifT hM hb20
       refine Ct hb20 ?_
       refine zaF ?_
       refine Ws ?_
       refine Sq ?_
       refine zas ?_
       refine Sq ?_
       refine Rg 7 ?_
       refine Of ((Tray.cells a0)) zcW ?_
       refine Olp (.sl .no 2 (a0.Presses.map TrayPress.cells)) zcq zc1 ?_
       refine Om (.i v18) ?_
       obtain ⟨x21,hx21,hM⟩:=zat hM
       refine zce (xs:=a0.Presses) (f:=TrayPress.cells) (z:=v18) (u:=x21) (by decide) rfl rfl zdn hx21 ?_
       refine Of ([.i x21.Side,.i x21.Time]) zgI ?_
       refine Olp (.i x21.Side) zai zav ?_
       refine Oa (.i x21.Side) ?_
       refine Ni ?_
       refine Ws ?_
       refine Sq ?_
       refine Rg 11 ?_
       refine Olg (.agg [.i (a0.Records.length:Int),.i 2,.sl .no 3 (([]:List WirePress).map WirePress.cells),.i 0]) zeX ?_
       refine Om (.i x21.Side) ?_
       obtain ⟨q22,hq22,hM⟩:=zat hM
       refine zjr (by decide) rfl rfl (ziZ hq22) ?_
       refine Om (.i x21.Side) ?_
       obtain ⟨q23,hq23,hM⟩:=zat hM
       refine zjr (by decide) rfl rfl (zka hq23) ?_
       obtain ⟨r24,hr24,hM⟩:=zat hM
       refine zaU (bs:=[.agg [.i (a0.Records.length:Int),.i 2,.sl .no 3 (([]:List WirePress).map WirePress.cells),.i 0],.sl .nil 0 [],.i q22,.i q23]) (by decide) rfl rfl ((zfq hr24).le (.k (.cons (.sl0 .nil 3 0) (.k (.k .nil))))) ?_
       refine Om (.tup [.i r24.1,.i r24.2]) ?_
       refine Ox (.i r24.1) ?_
       refine Ox (.i r24.2) ?_
       refine Oa (.i r24.1) ?_
       refine Oa (.i r24.2) ?_
       refine Ni ?_
       refine Ws ?_
       refine Sq ?_
       have hS0:=hS
       refine zd6 (n:=14) rfl (by kernel_rfl) ?_
       refine Olg (.agg [.i (a0.Records.length:Int),.i 2,.sl .no 3 (([]:List WirePress).map WirePress.cells),.i 0]) zeX ?_
       refine zbx (es:=[]) hS (by decide) zb0 zdO rfl zdP rfl (by decide) (by omega) fun H hS=>?_
       refine Om (.sl .no 3 (a1.map WireFault.cells)) ?_
       obtain ⟨l25,hl25,hM⟩:=zat hM
       refine zdW (xs:=([]:List WireFault)) (ys:=a1) (zs:=l25) (f:=WireFault.cells) (L':=([(g6+5+7+11+1,.row 52 l25.length),(g2+2,.cells [.sl .no 2 (r7.Records.map TrayRecord.cells),.i r7.At,.i r7.Way,.i r7.Step,msn (g2+4+1) 2 (r7.Presses.map TrayPress.cells).length])]++zdX (g2+4+1) (r7.Presses.map TrayPress.cells).length (v19.map TrayPress.cells))) 0 hS (by decide) rfl rfl rfl rfl (.behind (by kernel_rfl)) zb0 zdO zdP hl25 rfl fun H hS=>?_
       refine Om (.i x21.Side) ?_
       obtain ⟨q26,hq26,hM⟩:=zat hM
       refine zjr (by decide) rfl rfl (ziZ hq26) ?_
       refine Om (.i x21.Side) ?_
       obtain ⟨q27,hq27,hM⟩:=zat hM
       refine zjr (by decide) rfl rfl (zka hq27) ?_
       obtain ⟨r28,hr28,hM⟩:=zat hM
       refine zaU (bs:=[.agg [.i (a0.Records.length:Int),.i 2,.sl .no 3 (([]:List WirePress).map WirePress.cells),.i 0],.sl (.id (g6+5+7+11+1)) 3 (l25.map WireFault.cells),.i q26,.i q27]) (by decide) rfl rfl ((zfq hr28).le (.k (.cons (.sl _ _ _) (.k (.k .nil))))) ?_
       refine Om (.tup [.i r28.1,.i r28.2]) ?_
       refine Ox (.i r28.1) ?_
       refine Ox (.i r28.2) ?_
       refine Oa (.i r28.1) ?_
       refine Oa (.i r28.2) ?_
       refine Ni ?_
       replace hS:=hS.keep (L':=([(g2+2,.cells [.sl .no 2 (r7.Records.map TrayRecord.cells),.i r7.At,.i r7.Way,.i r7.Step,msn (g2+4+1) 2 (r7.Presses.map TrayPress.cells).length])]++zdX (g2+4+1) (r7.Presses.map TrayPress.cells).length (v19.map TrayPress.cells))) [false,true] rfl
       refine Ws ?_
       refine Sq ?_
       refine zaJ (J:=Bool) (fun j=>[(1,.sl .no 3 (a1.map WireFault.cells)),(2,.ep (Tray.cells a0)),(5,.ep [.i (a0.Records.length:Int),.i 2,.sl .no 3 (([]:List WirePress).map WirePress.cells),.i 0]),(7,.ptr (g2+2) 0),(8,.i v18),(9,.i x21.Side),(12,.i r28.1),(113,.b j)]) (fun j H' g'=>St (·<g) H0 ([(g2+2,.cells [.sl .no 2 (r7.Records.map TrayRecord.cells),.i r7.At,.i r7.Way,.i r7.Step,msn (g2+4+1) 2 (r7.Presses.map TrayPress.cells).length])]++zdX (g2+4+1) (r7.Presses.map TrayPress.cells).length (v19.map TrayPress.cells)) H' g'/\zck n (za7 n a0 a1 r7 m6) a0 a1 v18 v19 x21 r28 j=some r) ?_ ?_
       ·rintro v29 H g7 ⟨hS,hM⟩
        change wpA _ _ _ _ (Fr.of [(1,.sl .no 3 (a1.map WireFault.cells)),(2,.ep (Tray.cells a0)),(5,.ep [.i (a0.Records.length:Int),.i 2,.sl .no 3 (([]:List WirePress).map WirePress.cells),.i 0]),(7,.ptr (g2+2) 0),(8,.i v18),(9,.i x21.Side),(12,.i r28.1),(113,.b v29)]) _ _
        replace hS:St (·<g) H0 ([(g2+2,.cells [.sl .no 2 (r7.Records.map TrayRecord.cells),.i r7.At,.i r7.Way,.i r7.Step,msn (g2+4+1) 2 (r7.Presses.map TrayPress.cells).length])]++zdX (g2+4+1) (r7.Presses.map TrayPress.cells).length (v19.map TrayPress.cells)) H g7:=hS
        replace hM:zck n (za7 n a0 a1 r7 m6) a0 a1 v18 v19 x21 r28 v29=some r:=hM
        rcases bft v29 with hb30 | hb30
        ·replace hM:=ifT hM hb30
         refine Ct hb30 ?_
         refine Sq ?_
         refine Rg 1 ?_
         refine Oa (.b false) ?_
         refine Ni ?_
         replace hS:=hS.keep (L':=([]++zdX (g2+4+1) (r7.Presses.map TrayPress.cells).length (v19.map TrayPress.cells))) [false] rfl
         refine Ws ?_
         refine za8 ?_
         refine zaC ?_
         refine zaS ?_
         refine zaC ?_
         refine zbG ?_
         refine zaS ?_
         refine zi6 ?_
         refine zbq (x:=.b false) (f:=fun r=>.b r) (.inr rfl) ?_ (.refl _) (Option.some.inj hM) hS
         exact (zay (zau (x:=.b false) rfl))
        ·replace hM:=ifF hM hb30
         refine Cf hb30 ?_
         refine zaF ?_
         refine Ws ?_
         refine Sq ?_
         have hS0:=hS
         refine zd6 (n:=14) rfl (by kernel_rfl) ?_
         refine Olg (.agg [.i (a0.Records.length:Int),.i 2,.sl .no 3 (([]:List WirePress).map WirePress.cells),.i 0]) zeX ?_
         refine zbx (es:=[]) hS (by decide) zb0 zdO rfl zdP rfl (by decide) (by omega) fun H hS=>?_
         refine Om (.sl .no 3 (a1.map WireFault.cells)) ?_
         obtain ⟨l31,hl31,hM⟩:=zat hM
         refine zdW (xs:=([]:List WireFault)) (ys:=a1) (zs:=l31) (f:=WireFault.cells) (L':=([(g7+1,.row 52 l31.length),(g2+2,.cells [.sl .no 2 (r7.Records.map TrayRecord.cells),.i r7.At,.i r7.Way,.i r7.Step,msn (g2+4+1) 2 (r7.Presses.map TrayPress.cells).length])]++zdX (g2+4+1) (r7.Presses.map TrayPress.cells).length (v19.map TrayPress.cells))) 0 hS (by decide) rfl rfl rfl rfl (.behind (by kernel_rfl)) zb0 zdO zdP hl31 rfl fun H hS=>?_
         refine Om (.i r28.1) ?_
         obtain ⟨q32,hq32,hM⟩:=zat hM
         refine zjr (by decide) rfl rfl (ziZ hq32) ?_
         refine Om (.i r28.1) ?_
         obtain ⟨q33,hq33,hM⟩:=zat hM
         refine zjr (by decide) rfl rfl (zka hq33) ?_
         obtain ⟨r34,hr34,hM⟩:=zat hM
         refine zaU (bs:=[.agg [.i (a0.Records.length:Int),.i 2,.sl .no 3 (([]:List WirePress).map WirePress.cells),.i 0],.sl (.id (g7+1)) 3 (l31.map WireFault.cells),.i q32,.i q33]) (by decide) rfl rfl ((zfq hr34).le (.k (.cons (.sl _ _ _) (.k (.k .nil))))) ?_
         refine Om (.tup [.i r34.1,.i r34.2]) ?_
         refine Ox (.i r34.1) ?_
         refine Ox (.i r34.2) ?_
         refine Oa (.i r34.1) ?_
         refine Oa (.i r34.2) ?_
         refine Ni ?_
         replace hS:=hS.keep (L':=([(g2+2,.cells [.sl .no 2 (r7.Records.map TrayRecord.cells),.i r7.At,.i r7.Way,.i r7.Step,msn (g2+4+1) 2 (r7.Presses.map TrayPress.cells).length])]++zdX (g2+4+1) (r7.Presses.map TrayPress.cells).length (v19.map TrayPress.cells))) [false,true] rfl
         refine Ws ?_
         refine Sq ?_
         refine zaJ (J:=Bool) (fun j=>[(1,.sl .no 3 (a1.map WireFault.cells)),(2,.ep (Tray.cells a0)),(5,.ep [.i (a0.Records.length:Int),.i 2,.sl .no 3 (([]:List WirePress).map WirePress.cells),.i 0]),(7,.ptr (g2+2) 0),(8,.i v18),(14,.i r34.1),(132,.b j)]) (fun j H' g'=>St (·<g) H0 ([(g2+2,.cells [.sl .no 2 (r7.Records.map TrayRecord.cells),.i r7.At,.i r7.Way,.i r7.Step,msn (g2+4+1) 2 (r7.Presses.map TrayPress.cells).length])]++zdX (g2+4+1) (r7.Presses.map TrayPress.cells).length (v19.map TrayPress.cells)) H' g'/\zdc (za7 n a0 a1 r7 m6) v18 v19 r34 j=some r) ?_ ?_
         ·rintro v35 H g8 ⟨hS,hM⟩
          change wpA _ _ _ _ (Fr.of [(1,.sl .no 3 (a1.map WireFault.cells)),(2,.ep (Tray.cells a0)),(5,.ep [.i (a0.Records.length:Int),.i 2,.sl .no 3 (([]:List WirePress).map WirePress.cells),.i 0]),(7,.ptr (g2+2) 0),(8,.i v18),(14,.i r34.1),(132,.b v35)]) _ _
          replace hS:St (·<g) H0 ([(g2+2,.cells [.sl .no 2 (r7.Records.map TrayRecord.cells),.i r7.At,.i r7.Way,.i r7.Step,msn (g2+4+1) 2 (r7.Presses.map TrayPress.cells).length])]++zdX (g2+4+1) (r7.Presses.map TrayPress.cells).length (v19.map TrayPress.cells)) H g8:=hS
          replace hM:zdc (za7 n a0 a1 r7 m6) v18 v19 r34 v35=some r:=hM
          rcases bft v35 with hb36 | hb36
          ·replace hM:=ifT hM hb36
           refine Ct hb36 ?_
           refine Sq ?_
           refine Rg 1 ?_
           refine Oa (.b false) ?_
           refine Ni ?_
           replace hS:=hS.keep (L':=([]++zdX (g2+4+1) (r7.Presses.map TrayPress.cells).length (v19.map TrayPress.cells))) [false] rfl
           refine Ws ?_
           refine za8 ?_
           refine zaC ?_
           refine zaS ?_
           refine zaC ?_
           refine zbG ?_
           refine zaS ?_
           refine zi6 ?_
           refine zbq (x:=.b false) (f:=fun r=>.b r) (.inr rfl) ?_ (.refl _) (Option.some.inj hM) hS
           exact (zay (zau (x:=.b false) rfl))
          ·replace hM:=ifF hM hb36
           refine Cf hb36 ?_
           refine zaF ?_
           refine Ws ?_
           refine Rg 7 ?_
           refine zan (by decide) zcW rfl ?_
           refine zb1 (v:=msn (g2+4+1) 2 (r7.Presses.map TrayPress.cells).length) 0 hS (by decide) rfl rfl .no (po zcq zc1) ?_
           refine Om (.i v18) ?_
           refine Om (.i r34.1) ?_
           obtain ⟨x37,hx37,hM⟩:=zat hM
           refine zpB (xs:=v19) (f:=TrayPress.cells) (z:=v18) (u:=x37) hS (by decide) rfl rfl zdn hx37 ?_
           refine zan (by decide) zgI rfl ?_
           refine zoj (xs:=v19) (z:=v18) (u:=x37) (u':=(⟨r34.1,x37.Time⟩:TrayPress)) (v:=r34.1) (f:=TrayPress.cells) (k:=2) (q:=0) hS rfl hx37 .no (fun _=>rfl) (by decide) rfl rfl zem fun H hS=>?_
           refine Ni ?_
           refine zae ?_
           refine Ws ?_
           refine Rg 3 ?_
           refine Om (.i v18) ?_
           refine Oi (.i (w64 (v18+1))) ?_
           refine Oa (.i (w64 (v18+1))) ?_
           refine Ni ?_
           exact zbg (w64 (v18+1),(v19.set (Int.toNat v18) (⟨r34.1,x37.Time⟩:TrayPress))) (Nat.lt_succ_self _) (.k (.k (.k (.k (.k .nil))))) ⟨(hS.keep [true] rfl).up (by omega),hM⟩
         ·refine Rg 7 ?_
          refine Om (.i r34.2) ?_
          refine Oi (.b (r34.2 != 0)) ?_
          refine Om (.b (r34.2 != 0)) ?_
          rcases bft (r34.2 != 0) with hb38 | hb38
          ·replace hM:=ifT hM hb38
           refine On (want:=false) hb38 ?_
           refine On (want:=false) hb38 ?_
           refine On (want:=false) hb38 ?_
           refine Pt (.b true) hb38 ?_
           refine Ni ?_
           exact zah true (.k (.k (.k (.k (.k (.k (.k .nil))))))) ⟨(hS.keep [true] rfl).up (by omega),hM⟩
          ·replace hM:=ifF hM hb38
           refine Oy (want:=false) hb38 ?_
           refine Om (.i r34.1) ?_
           refine Oy (want:=false) hb38 ?_
           refine Om (.i x21.Side) ?_
           refine Oy (want:=false) hb38 ?_
           refine Oi (.b (r34.1 != x21.Side)) ?_
           refine Pf (.b (r34.1 != x21.Side)) hb38 ?_
           refine Ni ?_
           exact zah (r34.1 != x21.Side) (.k (.k (.k (.k (.k (.k (.k .nil))))))) ⟨(hS.keep [true] rfl).up (by omega),hM⟩
       ·refine Rg 17 ?_
        refine Om (.i r24.2) ?_
        refine Oi (.b (r24.2 != 0)) ?_
        refine Om (.b (r24.2 != 0)) ?_
        rcases bft (r24.2 != 0) with hb39 | hb39
        ·replace hM:=ifT hM hb39
         refine On (want:=false) hb39 ?_
         refine On (want:=false) hb39 ?_
         refine Pt (.b true) hb39 ?_
         refine Om (.b true) ?_
         refine Og ?_
         refine Og ?_
         refine Og ?_
         refine zcA (v:=.b true) (e:=true) (by decide) rfl rfl rfl ?_
         refine Om (.b true) ?_
         refine Og ?_
         refine Og ?_
         refine Og ?_
         refine Og ?_
         refine zcA (v:=.b true) (e:=true) (by decide) rfl rfl rfl ?_
         refine Ni ?_
         exact zah true (.k (.k (.k (.k (.k (.k (.k (.k .nil)))))))) ⟨(hS.keep [true] rfl).up (by omega),hM⟩
        ·replace hM:=ifF hM hb39
         refine Oy (want:=false) hb39 ?_
         refine Om (.i r28.2) ?_
         refine Oy (want:=false) hb39 ?_
         refine Oi (.b (r28.2 != 0)) ?_
         refine Pf (.b (r28.2 != 0)) hb39 ?_
         refine Om (.b (r28.2 != 0)) ?_
         rcases bft (r28.2 != 0) with hb40 | hb40
         ·replace hM:=ifT hM hb40
          refine On (want:=false) hb40 ?_
          refine On (want:=false) hb40 ?_
          refine On (want:=false) hb40 ?_
          refine Pt (.b true) hb40 ?_
          refine Om (.b true) ?_
          refine Og ?_
          refine Og ?_
          refine Og ?_
          refine Og ?_
          refine zcA (v:=.b true) (e:=true) (by decide) rfl rfl rfl ?_
          refine Ni ?_
          exact zah true (.k (.k (.k (.k (.k (.k (.k (.k .nil)))))))) ⟨(hS.keep [true] rfl).up (by omega),hM⟩
         ·replace hM:=ifF hM hb40
          refine Oy (want:=false) hb40 ?_
          refine Om (.i r24.1) ?_
          refine Oy (want:=false) hb40 ?_
          refine Om (.i x21.Side) ?_
          refine Oy (want:=false) hb40 ?_
          refine Oi (.b (r24.1 != x21.Side)) ?_
          refine Pf (.b (r24.1 != x21.Side)) hb40 ?_
          refine Om (.b (r24.1 != x21.Side)) ?_
          rcases bft (r24.1 != x21.Side) with hb41 | hb41
          ·replace hM:=ifT hM hb41
           refine On (want:=false) hb41 ?_
           refine On (want:=false) hb41 ?_
           refine On (want:=false) hb41 ?_
           refine On (want:=false) hb41 ?_
           refine Pt (.b true) hb41 ?_
           refine Ni ?_
           exact zah true (.k (.k (.k (.k (.k (.k (.k (.k .nil)))))))) ⟨(hS.keep [true] rfl).up (by omega),hM⟩
          ·replace hM:=ifF hM hb41
           refine Oy (want:=false) hb41 ?_
           refine Olg (.agg (Tray.cells a0)) zc5 ?_
           refine Oy (want:=false) hb41 ?_
           refine Om (.i r28.1) ?_
           refine Oy (want:=false) hb41 ?_
           obtain ⟨r42,hr42,hM⟩:=zat hM
           refine zaU (bs:=[.agg (Tray.cells a0),.i r28.1]) (by decide) rfl rfl ((zhc hr42).le (.k (.k .nil))) ?_
           refine Oy (want:=false) hb41 ?_
           refine zfY (e:=r42) (by decide) rfl ?_
           refine Pf (.b (!r42)) hb41 ?_
           refine Ni ?_
           exact zah (!r42) (.k (.k (.k (.k (.k (.k (.k (.k .nil)))))))) ⟨(hS.keep [true] rfl).up (by omega),hM⟩
      ·replace hM:=ifF hM hb20
       refine Cf hb20 ?_
       refine zbS ?_
       refine zaq ?_
       refine zam ?_
       refine zaA ?_
       exact zq1 Try.prog 0 (p:=4) hS rfl rfl (by decide) (zkg (fun _=>rfl)) (zhK (fun x=>(zdK (zdK zhJ)))) rfl rfl v19 (.k (.k .nil)) (fun H hS=>⟨(hS.keep [true] rfl).up (by omega),hM⟩)
    ·refine Sq ?_
     refine Rg 1 ?_
     refine Oa (.i 0) ?_
     refine Ni ?_
     refine Ws ?_
     refine zas ?_
     refine zbV (V:=Int) (fun v=>[(1,.sl .no 3 (a1.map WireFault.cells)),(2,.ep (Tray.cells a0)),(5,.ep [.i (a0.Records.length:Int),.i 2,.sl .no 3 (([]:List WirePress).map WirePress.cells),.i 0]),(6,.i v)]) (fun v m9 H' g'=>St (·<g) H0 [] H' g'/\zcl n a0 a1 m9 v=some r) (n:=n) 0 (.k (.k (.k (.k .nil)))) ⟨(hS.keep [] rfl).up (by omega),hM⟩ ?_
     rintro v43 m9 H g9 ⟨hS,hM⟩
     obtain _ | m9:=m9
     ·exact nomatch (show none=some _ from hM)
     change wpA _ _ _ _ (Fr.of [(1,.sl .no 3 (a1.map WireFault.cells)),(2,.ep (Tray.cells a0)),(5,.ep [.i (a0.Records.length:Int),.i 2,.sl .no 3 (([]:List WirePress).map WirePress.cells),.i 0]),(6,.i v43)]) _ _
     replace hS:St (·<g) H0 [] H g9:=hS
     replace hM:zdl n a0 a1 (zcl n a0 a1 m9) v43=some r:=hM
     refine Sq ?_
     refine Sq ?_
     refine Rg 4 ?_
     refine Om (.i v43) ?_
     refine Om (.sl .no 3 (a1.map WireFault.cells)) ?_
     refine zc7 (n:=a1.length) (by decide) rfl (List.length_map _) zfp ?_
     refine Oi (.b (decide (v43<(a1.length:Int)))) ?_
     refine Ni ?_
     refine Ws ?_
     rcases bft (decide (v43<(a1.length:Int))) with hb44 | hb44
     ·replace hM:=ifT hM hb44
      refine Ct hb44 ?_
      refine zaF ?_
      refine Ws ?_
      refine Sq ?_
      refine zas ?_
      refine Sq ?_
      refine Rg 6 ?_
      refine Om (.sl .no 3 (a1.map WireFault.cells)) ?_
      refine Om (.i v43) ?_
      obtain ⟨x45,hx45,hM⟩:=zat hM
      refine zce (xs:=a1) (f:=WireFault.cells) (z:=v43) (u:=x45) (by decide) rfl rfl zb0 hx45 ?_
      refine Of ((WireFault.cells x45)) zdQ ?_
      refine Olp (.i x45.Kind) zai zav ?_
      refine Oi (.b (decide (x45.Kind<3))) ?_
      refine Ni ?_
      refine Ws ?_
      rcases bft (decide (x45.Kind<3)) with hb46 | hb46
      ·replace hM:=ifT hM hb46
       refine Ct hb46 ?_
       refine Sq ?_
       refine Rg 2 ?_
       obtain ⟨r47,hr47,hM⟩:=zat hM
       refine zaU (bs:=[]) (by decide) rfl rfl ((zfr hr47).le .nil) ?_
       refine Oa (.b r47) ?_
       refine Ni ?_
       refine Ws ?_
       refine za8 ?_
       refine zaS ?_
       refine zaC ?_
       refine zbG ?_
       refine zaS ?_
       refine zci ?_
       refine zbq (x:=.b r47) (f:=fun r=>.b r) (.inr rfl) ?_ (.refl _) (Option.some.inj hM) hS
       exact (zay (zau (x:=.b r47) rfl))
      ·replace hM:=ifF hM hb46
       refine Cf hb46 ?_
       refine zaF ?_
       refine zae ?_
       refine Ws ?_
       refine Rg 3 ?_
       refine Om (.i v43) ?_
       refine Oi (.i (w64 (v43+1))) ?_
       refine Oa (.i (w64 (v43+1))) ?_
       refine Ni ?_
       exact zbg (w64 (v43+1)) (Nat.lt_succ_self _) (.k (.k (.k (.k .nil)))) ⟨(hS.keep [] rfl).up (by omega),hM⟩
     ·replace hM:=ifF hM hb44
      refine Cf hb44 ?_
      refine zbS ?_
      refine zaq ?_
      refine zam ?_
      refine zaA ?_
      exact zah () (.k (.k (.k .nil))) ⟨(hS.keep [] rfl).up (by omega),hM⟩
 ·refine Rg 18 ?_
  refine Olg (.agg (Tray.cells a0)) zc5 ?_
  obtain ⟨r48,hr48,hM⟩:=zat hM
  refine zaU (bs:=[.agg (Tray.cells a0)]) (by decide) rfl rfl ((zlU hr48).le (.k .nil)) ?_
  refine Om (.b r48) ?_
  rcases bft r48 with hb49 | hb49
  ·replace hM:=ifT hM hb49
   refine On (want:=false) hb49 ?_
   refine On (want:=false) hb49 ?_
   refine On (want:=false) hb49 ?_
   refine Pt (.b true) hb49 ?_
   refine Om (.b true) ?_
   refine Og ?_
   refine Og ?_
   refine Og ?_
   refine Og ?_
   refine zcA (v:=.b true) (e:=true) (by decide) rfl rfl rfl ?_
   refine Om (.b true) ?_
   refine Og ?_
   refine Og ?_
   refine Og ?_
   refine zcA (v:=.b true) (e:=true) (by decide) rfl rfl rfl ?_
   refine Ni ?_
   exact zah true (.k (.k (.k .nil))) ⟨(hS.keep [] rfl).up (by omega),hM⟩
  ·replace hM:=ifF hM hb49
   refine Oy (want:=false) hb49 ?_
   refine Olg (.agg (Tray.cells a0)) zc5 ?_
   refine Oy (want:=false) hb49 ?_
   obtain ⟨r50,hr50,hM⟩:=zat hM
   refine zaU (bs:=[.agg (Tray.cells a0)]) (by decide) rfl rfl ((zkv hr50).le (.k .nil)) ?_
   refine Oy (want:=false) hb49 ?_
   refine Oi (.b (r50 != 0)) ?_
   refine Pf (.b (r50 != 0)) hb49 ?_
   refine Om (.b (r50 != 0)) ?_
   rcases bft (r50 != 0) with hb51 | hb51
   ·replace hM:=ifT hM hb51
    refine On (want:=false) hb51 ?_
    refine On (want:=false) hb51 ?_
    refine On (want:=false) hb51 ?_
    refine On (want:=false) hb51 ?_
    refine Pt (.b true) hb51 ?_
    refine Om (.b true) ?_
    refine Og ?_
    refine Og ?_
    refine Og ?_
    refine zcA (v:=.b true) (e:=true) (by decide) rfl rfl rfl ?_
    refine Ni ?_
    exact zah true (.k (.k (.k .nil))) ⟨(hS.keep [] rfl).up (by omega),hM⟩
   ·replace hM:=ifF hM hb51
    refine Oy (want:=false) hb51 ?_
    refine Of ((Tray.cells a0)) zbQ ?_
    refine Oy (want:=false) hb51 ?_
    refine Olp (.sl .no 2 (a0.Records.map TrayRecord.cells)) zct zde ?_
    refine Oy (want:=false) hb51 ?_
    refine zc7 (n:=a0.Records.length) (by decide) rfl (List.length_map _) zdm ?_
    refine Oy (want:=false) hb51 ?_
    refine Oi (.b (decide ((a0.Records.length:Int)>5))) ?_
    refine Pf (.b (decide ((a0.Records.length:Int)>5))) hb51 ?_
    refine Om (.b (decide ((a0.Records.length:Int)>5))) ?_
    rcases bft (decide ((a0.Records.length:Int)>5)) with hb52 | hb52
    ·replace hM:=ifT hM hb52
     refine On (want:=false) hb52 ?_
     refine On (want:=false) hb52 ?_
     refine On (want:=false) hb52 ?_
     refine Pt (.b true) hb52 ?_
     refine Ni ?_
     exact zah true (.k (.k (.k .nil))) ⟨(hS.keep [] rfl).up (by omega),hM⟩
    ·replace hM:=ifF hM hb52
     refine Oy (want:=false) hb52 ?_
     refine Om (.sl .no 3 (a1.map WireFault.cells)) ?_
     refine Oy (want:=false) hb52 ?_
     refine zc7 (n:=a1.length) (by decide) rfl (List.length_map _) zfp ?_
     refine Oy (want:=false) hb52 ?_
     refine Oi (.b (decide ((a1.length:Int)>40))) ?_
     refine Pf (.b (decide ((a1.length:Int)>40))) hb52 ?_
     refine Ni ?_
     exact zah (decide ((a1.length:Int)>40)) (.k (.k (.k .nil))) ⟨(hS.keep [] rfl).up (by omega),hM⟩
end Go.Proofs.Ytclaalcoefcljaa
