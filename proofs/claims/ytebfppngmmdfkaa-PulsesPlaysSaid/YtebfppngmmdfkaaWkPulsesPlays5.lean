/-
  The code returns what the functions say (printed by gen.py).
  Conditions: none.
-/
import Derived.Test.YtebfppngmmdfkaaWkPulsesPlays4
import Derived.Test.YtebfppngmmdfkaaAmPg
set_option linter.all false
namespace Go.Proofs.Ytebfppngmmdfkaa
open Go Go.AM Go.Law
set_option linter.unusedVariables false
set_option maxRecDepth 4000
set_option maxHeartbeats 4000000
theorem zm9 {n:Nat} {a0:Pulse} {a1:Pulse} {r:Bool} (hM:zin n a0 a1=some r):zav Try.prog 10 [.agg (Pulse.cells a0),.agg (Pulse.cells a1)] (.b r):=by
 refine zaj mixed Try.func10 rfl (by decide) Try.ntmps10 (by simp) ?pure fun H0 g hf=>?_
 case pure=>exact .v _
 rw [zah]
 change wpA _ _ _ _ (Fr.of [(0,.agg (Pulse.cells a0)),(1,.agg (Pulse.cells a1))]) H0 g
 have hS:=St.start hf
 refine Sq ?_
 refine Rg 3 ?_
 refine zbX (v:=.agg (Pulse.cells a0)) (cs:=(Pulse.cells a0)) hS (by decide) rfl rfl (by omega) fun H hS=>?_
 refine zbX (v:=.agg (Pulse.cells a1)) (cs:=(Pulse.cells a1)) hS (by decide) rfl rfl (by omega) fun H hS=>?_
 refine Oa (.b false) ?_
 refine Ni ?_
 refine zaZ (L':=[(g+1,.cells (Pulse.cells a1))]) 1 2 hS rfl rfl rfl fun H hS=>?_
 refine zaZ (L':=[]) 0 3 hS rfl rfl rfl fun H hS=>?_
 refine Ws ?_
 refine zaC (J:=Bool) (fun j=>[(4,.b j)]) (fun j H' g'=>St (·<g) H0 [] H' g'/\zb9 j=some r) ?_ ?_
 ·rintro v1 H g1 ⟨hS,hM⟩
  change wpA _ _ _ _ (Fr.of [(4,.b v1)]) _ _
  replace hS:St (·<g) H0 [] H g1:=hS
  replace hM:zb9 v1=some r:=hM
  refine zaA ?_
  refine zaJ (x:=.b v1) (f:=fun r=>.b r) (.inr rfl) ?_ (.refl _) (Option.some.inj hM) hS
  exact (zao (zac (x:=.b v1) rfl))
 ·refine Rg 55 ?_
  refine Of ((Pulse.cells a0)) zfo ?_
  refine Olp (.i a0.Letters) zab zaf ?_
  refine Of ((Pulse.cells a1)) zfo ?_
  refine Olp (.i a1.Letters) zab zaf ?_
  refine Oi (.b (a0.Letters==a1.Letters)) ?_
  refine Om (.b (a0.Letters==a1.Letters)) ?_
  rcases bft (a0.Letters==a1.Letters) with hb2 | hb2
  ·replace hM:=ifT hM hb2
   refine Oy (want:=true) hb2 ?_
   refine Of ((Pulse.cells a0)) zcu ?_
   refine Oy (want:=true) hb2 ?_
   refine Olp (.i a0.Numbers) zab zaf ?_
   refine Oy (want:=true) hb2 ?_
   refine Of ((Pulse.cells a1)) zcu ?_
   refine Oy (want:=true) hb2 ?_
   refine Olp (.i a1.Numbers) zab zaf ?_
   refine Oy (want:=true) hb2 ?_
   refine Oi (.b (a0.Numbers==a1.Numbers)) ?_
   refine Pt (.b (a0.Numbers==a1.Numbers)) hb2 ?_
   refine Om (.b (a0.Numbers==a1.Numbers)) ?_
   rcases bft (a0.Numbers==a1.Numbers) with hb3 | hb3
   ·replace hM:=ifT hM hb3
    refine Oy (want:=true) hb3 ?_
    refine Of ((Pulse.cells a0)) zdw ?_
    refine Oy (want:=true) hb3 ?_
    refine Olp (.i a0.Pitch) zab zaf ?_
    refine Oy (want:=true) hb3 ?_
    refine Of ((Pulse.cells a1)) zdw ?_
    refine Oy (want:=true) hb3 ?_
    refine Olp (.i a1.Pitch) zab zaf ?_
    refine Oy (want:=true) hb3 ?_
    refine Oi (.b (a0.Pitch==a1.Pitch)) ?_
    refine Pt (.b (a0.Pitch==a1.Pitch)) hb3 ?_
    refine Om (.b (a0.Pitch==a1.Pitch)) ?_
    rcases bft (a0.Pitch==a1.Pitch) with hb4 | hb4
    ·replace hM:=ifT hM hb4
     refine Oy (want:=true) hb4 ?_
     refine Of ((Pulse.cells a0)) zeJ ?_
     refine Oy (want:=true) hb4 ?_
     refine Olp (.i a0.Slack) zab zaf ?_
     refine Oy (want:=true) hb4 ?_
     refine Of ((Pulse.cells a1)) zeJ ?_
     refine Oy (want:=true) hb4 ?_
     refine Olp (.i a1.Slack) zab zaf ?_
     refine Oy (want:=true) hb4 ?_
     refine Oi (.b (a0.Slack==a1.Slack)) ?_
     refine Pt (.b (a0.Slack==a1.Slack)) hb4 ?_
     refine Om (.b (a0.Slack==a1.Slack)) ?_
     rcases bft (a0.Slack==a1.Slack) with hb5 | hb5
     ·replace hM:=ifT hM hb5
      refine Oy (want:=true) hb5 ?_
      refine Of ((Pulse.cells a0)) zgK ?_
      refine Oy (want:=true) hb5 ?_
      refine Olp (.i a0.Gap) zab zaf ?_
      refine Oy (want:=true) hb5 ?_
      refine Of ((Pulse.cells a1)) zgK ?_
      refine Oy (want:=true) hb5 ?_
      refine Olp (.i a1.Gap) zab zaf ?_
      refine Oy (want:=true) hb5 ?_
      refine Oi (.b (a0.Gap==a1.Gap)) ?_
      refine Pt (.b (a0.Gap==a1.Gap)) hb5 ?_
      refine Om (.b (a0.Gap==a1.Gap)) ?_
      rcases bft (a0.Gap==a1.Gap) with hb6 | hb6
      ·replace hM:=ifT hM hb6
       refine Oy (want:=true) hb6 ?_
       refine Of ((Pulse.cells a0)) zeK ?_
       refine Oy (want:=true) hb6 ?_
       refine Olp (.i a0.Pause) zab zaf ?_
       refine Oy (want:=true) hb6 ?_
       refine Of ((Pulse.cells a1)) zeK ?_
       refine Oy (want:=true) hb6 ?_
       refine Olp (.i a1.Pause) zab zaf ?_
       refine Oy (want:=true) hb6 ?_
       refine Oi (.b (a0.Pause==a1.Pause)) ?_
       refine Pt (.b (a0.Pause==a1.Pause)) hb6 ?_
       refine Om (.b (a0.Pause==a1.Pause)) ?_
       rcases bft (a0.Pause==a1.Pause) with hb7 | hb7
       ·replace hM:=ifT hM hb7
        refine Oy (want:=true) hb7 ?_
        refine Of ((Pulse.cells a0)) zgL ?_
        refine Oy (want:=true) hb7 ?_
        refine Olp (.i a0.Sparks) zab zaf ?_
        refine Oy (want:=true) hb7 ?_
        refine Of ((Pulse.cells a1)) zgL ?_
        refine Oy (want:=true) hb7 ?_
        refine Olp (.i a1.Sparks) zab zaf ?_
        refine Oy (want:=true) hb7 ?_
        refine Oi (.b (a0.Sparks==a1.Sparks)) ?_
        refine Pt (.b (a0.Sparks==a1.Sparks)) hb7 ?_
        refine Om (.b (a0.Sparks==a1.Sparks)) ?_
        rcases bft (a0.Sparks==a1.Sparks) with hb8 | hb8
        ·replace hM:=ifT hM hb8
         refine Oy (want:=true) hb8 ?_
         refine Of ((Pulse.cells a0)) zcV ?_
         refine Oy (want:=true) hb8 ?_
         refine Olp (.sl .no 1 (a0.Times.map cI)) za6 zbx ?_
         refine Oy (want:=true) hb8 ?_
         refine Of ((Pulse.cells a1)) zcV ?_
         refine Oy (want:=true) hb8 ?_
         refine Olp (.sl .no 1 (a1.Times.map cI)) za6 zbx ?_
         refine Oy (want:=true) hb8 ?_
         obtain ⟨r9,hr9,hM⟩:=zai hM
         refine zau (bs:=[.sl .no 1 (a0.Times.map cI),.sl .no 1 (a1.Times.map cI)]) (by decide) rfl rfl ((zdR hr9).le (.k (.k .nil))) ?_
         refine Pt (.b r9) hb8 ?_
         refine Oa (.b r9) ?_
         refine Ni ?_
         exact zag r9 (.k .nil) ⟨(hS.keep [] rfl).up (by omega),hM⟩
        ·replace hM:=ifF hM hb8
         refine On (want:=true) hb8 ?_
         refine On (want:=true) hb8 ?_
         refine On (want:=true) hb8 ?_
         refine On (want:=true) hb8 ?_
         refine On (want:=true) hb8 ?_
         refine Pf (.b false) hb8 ?_
         refine Oa (.b false) ?_
         refine Ni ?_
         exact zag false (.k .nil) ⟨(hS.keep [] rfl).up (by omega),hM⟩
       ·replace hM:=ifF hM hb7
        refine On (want:=true) hb7 ?_
        refine On (want:=true) hb7 ?_
        refine On (want:=true) hb7 ?_
        refine On (want:=true) hb7 ?_
        refine On (want:=true) hb7 ?_
        refine Pf (.b false) hb7 ?_
        refine Om (.b false) ?_
        refine Og ?_
        refine Og ?_
        refine Og ?_
        refine Og ?_
        refine Og ?_
        refine zaE (v:=.b false) (e:=false) (by decide) rfl rfl rfl ?_
        refine Oa (.b false) ?_
        refine Ni ?_
        exact zag false (.k .nil) ⟨(hS.keep [] rfl).up (by omega),hM⟩
      ·replace hM:=ifF hM hb6
       refine On (want:=true) hb6 ?_
       refine On (want:=true) hb6 ?_
       refine On (want:=true) hb6 ?_
       refine On (want:=true) hb6 ?_
       refine On (want:=true) hb6 ?_
       refine Pf (.b false) hb6 ?_
       refine Om (.b false) ?_
       refine Og ?_
       refine Og ?_
       refine Og ?_
       refine Og ?_
       refine Og ?_
       refine zaE (v:=.b false) (e:=false) (by decide) rfl rfl rfl ?_
       refine Om (.b false) ?_
       refine Og ?_
       refine Og ?_
       refine Og ?_
       refine Og ?_
       refine Og ?_
       refine zaE (v:=.b false) (e:=false) (by decide) rfl rfl rfl ?_
       refine Oa (.b false) ?_
       refine Ni ?_
       exact zag false (.k .nil) ⟨(hS.keep [] rfl).up (by omega),hM⟩
     ·replace hM:=ifF hM hb5
      refine On (want:=true) hb5 ?_
      refine On (want:=true) hb5 ?_
      refine On (want:=true) hb5 ?_
      refine On (want:=true) hb5 ?_
      refine On (want:=true) hb5 ?_
      refine Pf (.b false) hb5 ?_
      refine Om (.b false) ?_
      refine Og ?_
      refine Og ?_
      refine Og ?_
      refine Og ?_
      refine Og ?_
      refine zaE (v:=.b false) (e:=false) (by decide) rfl rfl rfl ?_
      refine Om (.b false) ?_
      refine Og ?_
      refine Og ?_
      refine Og ?_
      refine Og ?_
      refine Og ?_
      refine zaE (v:=.b false) (e:=false) (by decide) rfl rfl rfl ?_
      refine Om (.b false) ?_
      refine Og ?_
      refine Og ?_
      refine Og ?_
      refine Og ?_
      refine Og ?_
      refine zaE (v:=.b false) (e:=false) (by decide) rfl rfl rfl ?_
      refine Oa (.b false) ?_
      refine Ni ?_
      exact zag false (.k .nil) ⟨(hS.keep [] rfl).up (by omega),hM⟩
    ·replace hM:=ifF hM hb4
     refine On (want:=true) hb4 ?_
     refine On (want:=true) hb4 ?_
     refine On (want:=true) hb4 ?_
     refine On (want:=true) hb4 ?_
     refine On (want:=true) hb4 ?_
     refine Pf (.b false) hb4 ?_
     refine Om (.b false) ?_
     refine Og ?_
     refine Og ?_
     refine Og ?_
     refine Og ?_
     refine Og ?_
     refine zaE (v:=.b false) (e:=false) (by decide) rfl rfl rfl ?_
     refine Om (.b false) ?_
     refine Og ?_
     refine Og ?_
     refine Og ?_
     refine Og ?_
     refine Og ?_
     refine zaE (v:=.b false) (e:=false) (by decide) rfl rfl rfl ?_
     refine Om (.b false) ?_
     refine Og ?_
     refine Og ?_
     refine Og ?_
     refine Og ?_
     refine Og ?_
     refine zaE (v:=.b false) (e:=false) (by decide) rfl rfl rfl ?_
     refine Om (.b false) ?_
     refine Og ?_
     refine Og ?_
     refine Og ?_
     refine Og ?_
     refine Og ?_
     refine zaE (v:=.b false) (e:=false) (by decide) rfl rfl rfl ?_
     refine Oa (.b false) ?_
     refine Ni ?_
     exact zag false (.k .nil) ⟨(hS.keep [] rfl).up (by omega),hM⟩
   ·replace hM:=ifF hM hb3
    refine On (want:=true) hb3 ?_
    refine On (want:=true) hb3 ?_
    refine On (want:=true) hb3 ?_
    refine On (want:=true) hb3 ?_
    refine On (want:=true) hb3 ?_
    refine Pf (.b false) hb3 ?_
    refine Om (.b false) ?_
    refine Og ?_
    refine Og ?_
    refine Og ?_
    refine Og ?_
    refine Og ?_
    refine zaE (v:=.b false) (e:=false) (by decide) rfl rfl rfl ?_
    refine Om (.b false) ?_
    refine Og ?_
    refine Og ?_
    refine Og ?_
    refine Og ?_
    refine Og ?_
    refine zaE (v:=.b false) (e:=false) (by decide) rfl rfl rfl ?_
    refine Om (.b false) ?_
    refine Og ?_
    refine Og ?_
    refine Og ?_
    refine Og ?_
    refine Og ?_
    refine zaE (v:=.b false) (e:=false) (by decide) rfl rfl rfl ?_
    refine Om (.b false) ?_
    refine Og ?_
    refine Og ?_
    refine Og ?_
    refine Og ?_
    refine Og ?_
    refine zaE (v:=.b false) (e:=false) (by decide) rfl rfl rfl ?_
    refine Om (.b false) ?_
    refine Og ?_
    refine Og ?_
    refine Og ?_
    refine Og ?_
    refine Og ?_
    refine zaE (v:=.b false) (e:=false) (by decide) rfl rfl rfl ?_
    refine Oa (.b false) ?_
    refine Ni ?_
    exact zag false (.k .nil) ⟨(hS.keep [] rfl).up (by omega),hM⟩
  ·replace hM:=ifF hM hb2
   refine On (want:=true) hb2 ?_
   refine On (want:=true) hb2 ?_
   refine On (want:=true) hb2 ?_
   refine On (want:=true) hb2 ?_
   refine On (want:=true) hb2 ?_
   refine Pf (.b false) hb2 ?_
   refine Om (.b false) ?_
   refine Og ?_
   refine Og ?_
   refine Og ?_
   refine Og ?_
   refine Og ?_
   refine zaE (v:=.b false) (e:=false) (by decide) rfl rfl rfl ?_
   refine Om (.b false) ?_
   refine Og ?_
   refine Og ?_
   refine Og ?_
   refine Og ?_
   refine Og ?_
   refine zaE (v:=.b false) (e:=false) (by decide) rfl rfl rfl ?_
   refine Om (.b false) ?_
   refine Og ?_
   refine Og ?_
   refine Og ?_
   refine Og ?_
   refine Og ?_
   refine zaE (v:=.b false) (e:=false) (by decide) rfl rfl rfl ?_
   refine Om (.b false) ?_
   refine Og ?_
   refine Og ?_
   refine Og ?_
   refine Og ?_
   refine Og ?_
   refine zaE (v:=.b false) (e:=false) (by decide) rfl rfl rfl ?_
   refine Om (.b false) ?_
   refine Og ?_
   refine Og ?_
   refine Og ?_
   refine Og ?_
   refine Og ?_
   refine zaE (v:=.b false) (e:=false) (by decide) rfl rfl rfl ?_
   refine Om (.b false) ?_
   refine Og ?_
   refine Og ?_
   refine Og ?_
   refine Og ?_
   refine Og ?_
   refine zaE (v:=.b false) (e:=false) (by decide) rfl rfl rfl ?_
   refine Oa (.b false) ?_
   refine Ni ?_
   exact zag false (.k .nil) ⟨(hS.keep [] rfl).up (by omega),hM⟩
theorem ziL {n:Nat} {a0:Pulse} {a1:List WireFault} {r:Bool} (hM:zfA n a0 a1=some r):zav Try.prog 3 [.agg (Pulse.cells a0),.sl .no 3 (a1.map WireFault.cells)] (.b r):=by
 refine zaj mixed Try.func3 rfl (by decide) Try.ntmps3 (by simp) ?pure fun H0 g hf=>?_
 case pure=>exact .v _
 rw [zah]
 change wpA _ _ _ _ (Fr.of [(0,.agg (Pulse.cells a0)),(1,.sl .no 3 (a1.map WireFault.cells))]) H0 g
 have hS:=St.start hf
 refine Sq ?_
 refine Rg 2 ?_
 refine zbX (v:=.agg (Pulse.cells a0)) (cs:=(Pulse.cells a0)) hS (by decide) rfl rfl (by omega) fun H hS=>?_
 refine Oa (.b false) ?_
 refine Ni ?_
 refine zaZ (L':=[]) 0 2 hS rfl rfl rfl fun H hS=>?_
 refine Ws ?_
 refine Sq ?_
 refine zaC (J:=Bool) (fun j=>[(1,.sl .no 3 (a1.map WireFault.cells)),(2,.ep (Pulse.cells a0)),(18,.b j)]) (fun j H' g'=>St (·<g) H0 [] H' g'/\zbF n a0 a1 j=some r) ?_ ?_
 ·rintro v1 H g1 ⟨hS,hM⟩
  change wpA _ _ _ _ (Fr.of [(1,.sl .no 3 (a1.map WireFault.cells)),(2,.ep (Pulse.cells a0)),(18,.b v1)]) _ _
  replace hS:St (·<g) H0 [] H g1:=hS
  replace hM:zbF n a0 a1 v1=some r:=hM
  rcases bft v1 with hb2 | hb2
  ·replace hM:=ifT hM hb2
   refine Ct hb2 ?_
   refine Sq ?_
   refine Rg 2 ?_
   obtain ⟨r3,hr3,hM⟩:=zai hM
   refine zau (bs:=[]) (by decide) rfl rfl ((zja hr3).le .nil) ?_
   refine Oa (.b r3) ?_
   refine Ni ?_
   refine Ws ?_
   refine zaA ?_
   refine zam ?_
   refine zaJ (x:=.b r3) (f:=fun r=>.b r) (.inr rfl) ?_ (.refl _) (Option.some.inj hM) hS
   exact (zao (zac (x:=.b r3) rfl))
  ·replace hM:=ifF hM hb2
   refine Cf hb2 ?_
   refine zar ?_
   refine Ws ?_
   refine Sq ?_
   refine Rg 8 ?_
   refine Olg (.agg (Pulse.cells a0)) za0 ?_
   obtain ⟨r4,hr4,hM⟩:=zai hM
   refine zau (bs:=[.agg (Pulse.cells a0)]) (by decide) rfl rfl ((zm5 hr4).le (.k .nil)) ?_
   refine zaK (es:=[]) hS (by decide) zca zfm rfl zfn rfl (by decide) (by omega) fun H hS=>?_
   refine Om (.sl .no 3 (a1.map WireFault.cells)) ?_
   obtain ⟨l5,hl5,hM⟩:=zai hM
   refine zcv (xs:=([]:List WireFault)) (ys:=a1) (zs:=l5) (f:=WireFault.cells) (L':=[(g1+2,.row 33 l5.length)]) 0 hS (by decide) rfl rfl rfl rfl .no zca zfm zfn hl5 rfl fun H hS=>?_
   refine zcp hS (by decide) zhe (by omega) fun H hS=>?_
   refine za1 (v:=.agg (Pulse.cells r4)) (ns:=(Pulse.cells r4)) (L':=[(g1+5,.cells (Pulse.cells r4)),(g1+2,.row 33 l5.length)]) 0 hS rfl rfl .no rfl rfl zi1 nlb rfl fun H hS=>?_
   refine Oa (.sl (.id (g1+2)) 3 (l5.map WireFault.cells)) ?_
   refine Ni ?_
   refine zaZ (L':=[(g1+2,.row 33 l5.length)]) 0 5 hS rfl rfl rfl fun H hS=>?_
   refine Ws ?_
   refine Sq ?_
   refine Rg 8 ?_
   refine Olg (.agg (Pulse.cells r4)) za0 ?_
   refine Om (.sl (.id (g1+2)) 3 (l5.map WireFault.cells)) ?_
   obtain ⟨r6,hr6,hM⟩:=zai hM
   refine zau (bs:=[.agg (Pulse.cells r4),.sl (.id (g1+2)) 3 (l5.map WireFault.cells)]) (by decide) rfl rfl ((zlg hr6).le (.k (.cons (.sl _ _ _) .nil))) ?_
   refine Om (.tup [.sl .no 1 (r6.1.map cI),.i r6.2]) ?_
   refine Ox (.sl .no 1 (r6.1.map cI)) ?_
   refine Ox (.i r6.2) ?_
   refine Oa (.sl .no 1 (r6.1.map cI)) ?_
   refine Oa (.i r6.2) ?_
   refine Ni ?_
   refine Ws ?_
   refine Sq ?_
   refine Rg 8 ?_
   refine Olg (.agg (Pulse.cells a0)) za0 ?_
   refine Om (.sl .no 3 (a1.map WireFault.cells)) ?_
   obtain ⟨r7,hr7,hM⟩:=zai hM
   refine zau (bs:=[.agg (Pulse.cells a0),.sl .no 3 (a1.map WireFault.cells)]) (by decide) rfl rfl ((zmt hr7).le (.k (.k .nil))) ?_
   refine Om (.tup [.sl .no 1 (r7.1.map cI),.i r7.2]) ?_
   refine Ox (.sl .no 1 (r7.1.map cI)) ?_
   refine Ox (.i r7.2) ?_
   refine Oa (.sl .no 1 (r7.1.map cI)) ?_
   refine Oa (.i r7.2) ?_
   refine Ni ?_
   refine Ws ?_
   refine zaC (J:=Unit) (fun j=>[(2,.ep (Pulse.cells a0)),(5,.ep (Pulse.cells r4)),(7,.sl .no 1 (r6.1.map cI)),(8,.i r6.2),(9,.sl .no 1 (r7.1.map cI)),(10,.i r7.2)]) (fun j H' g'=>St (·<g) H0 [] H' g'/\zcE n a0 r4 r6 r7=some r) ?_ ?_
   ·rintro _ H g2 ⟨hS,hM⟩
    change wpA _ _ _ _ (Fr.of [(2,.ep (Pulse.cells a0)),(5,.ep (Pulse.cells r4)),(7,.sl .no 1 (r6.1.map cI)),(8,.i r6.2),(9,.sl .no 1 (r7.1.map cI)),(10,.i r7.2)]) _ _
    replace hS:St (·<g) H0 [] H g2:=hS
    replace hM:zcE n a0 r4 r6 r7=some r:=hM
    refine zaC (J:=Bool) (fun j=>[(4,.b j)]) (fun j H' g'=>St (·<g) H0 [] H' g'/\zcd j=some r) ?_ ?_
    ·rintro v8 H g3 ⟨hS,hM⟩
     change wpA _ _ _ _ (Fr.of [(4,.b v8)]) _ _
     replace hS:St (·<g) H0 [] H g3:=hS
     replace hM:zcd v8=some r:=hM
     refine zaA ?_
     refine zaJ (x:=.b v8) (f:=fun r=>.b r) (.inr rfl) ?_ (.refl _) (Option.some.inj hM) hS
     exact (zao (zac (x:=.b v8) rfl))
    ·refine Rg 17 ?_
     refine Om (.sl .no 1 (r6.1.map cI)) ?_
     refine Om (.sl .no 1 (r7.1.map cI)) ?_
     obtain ⟨r9,hr9,hM⟩:=zai hM
     refine zau (bs:=[.sl .no 1 (r6.1.map cI),.sl .no 1 (r7.1.map cI)]) (by decide) rfl rfl ((zdR hr9).le (.k (.k .nil))) ?_
     refine Om (.b r9) ?_
     rcases bft r9 with hb10 | hb10
     ·replace hM:=ifT hM hb10
      refine Oy (want:=true) hb10 ?_
      refine Om (.i r6.2) ?_
      refine Oy (want:=true) hb10 ?_
      refine Om (.i r7.2) ?_
      refine Oy (want:=true) hb10 ?_
      refine Oi (.b (r6.2==r7.2)) ?_
      refine Pt (.b (r6.2==r7.2)) hb10 ?_
      refine Om (.b (r6.2==r7.2)) ?_
      rcases bft (r6.2==r7.2) with hb11 | hb11
      ·replace hM:=ifT hM hb11
       refine Oy (want:=true) hb11 ?_
       refine Olg (.agg (Pulse.cells r4)) za0 ?_
       refine Oy (want:=true) hb11 ?_
       refine Olg (.agg (Pulse.cells a0)) za0 ?_
       refine Oy (want:=true) hb11 ?_
       obtain ⟨r12,hr12,hM⟩:=zai hM
       refine zau (bs:=[.agg (Pulse.cells r4),.agg (Pulse.cells a0)]) (by decide) rfl rfl ((zm9 hr12).le (.k (.k .nil))) ?_
       refine Pt (.b r12) hb11 ?_
       refine Om (.b r12) ?_
       rcases bft r12 with hb13 | hb13
       ·replace hM:=ifT hM hb13
        refine Oy (want:=true) hb13 ?_
        obtain ⟨r14,hr14,hM⟩:=zai hM
        refine zau (bs:=[]) (by decide) rfl rfl ((zja hr14).le .nil) ?_
        refine Pt (.b r14) hb13 ?_
        refine Oa (.b r14) ?_
        refine Ni ?_
        exact zag r14 (.k .nil) ⟨(hS.keep [] rfl).up (by omega),hM⟩
       ·replace hM:=ifF hM hb13
        refine On (want:=true) hb13 ?_
        refine Pf (.b false) hb13 ?_
        refine Oa (.b false) ?_
        refine Ni ?_
        exact zag false (.k .nil) ⟨(hS.keep [] rfl).up (by omega),hM⟩
      ·replace hM:=ifF hM hb11
       refine On (want:=true) hb11 ?_
       refine On (want:=true) hb11 ?_
       refine On (want:=true) hb11 ?_
       refine Pf (.b false) hb11 ?_
       refine Om (.b false) ?_
       refine Og ?_
       refine zaE (v:=.b false) (e:=false) (by decide) rfl rfl rfl ?_
       refine Oa (.b false) ?_
       refine Ni ?_
       exact zag false (.k .nil) ⟨(hS.keep [] rfl).up (by omega),hM⟩
     ·replace hM:=ifF hM hb10
      refine On (want:=true) hb10 ?_
      refine On (want:=true) hb10 ?_
      refine On (want:=true) hb10 ?_
      refine Pf (.b false) hb10 ?_
      refine Om (.b false) ?_
      refine Og ?_
      refine Og ?_
      refine Og ?_
      refine zaE (v:=.b false) (e:=false) (by decide) rfl rfl rfl ?_
      refine Om (.b false) ?_
      refine Og ?_
      refine zaE (v:=.b false) (e:=false) (by decide) rfl rfl rfl ?_
      refine Oa (.b false) ?_
      refine Ni ?_
      exact zag false (.k .nil) ⟨(hS.keep [] rfl).up (by omega),hM⟩
   ·refine Sq ?_
    refine Rg 1 ?_
    refine Oa (.i 0) ?_
    refine Ni ?_
    refine Ws ?_
    refine zaq ?_
    refine zbr (V:=Int) (fun v=>[(1,.sl .no 3 (a1.map WireFault.cells)),(2,.ep (Pulse.cells a0)),(5,.ep (Pulse.cells r4)),(6,.sl (.id (g1+2)) 3 (l5.map WireFault.cells)),(7,.sl .no 1 (r6.1.map cI)),(8,.i r6.2),(9,.sl .no 1 (r7.1.map cI)),(10,.i r7.2),(11,.i v)]) (fun v m4 H' g'=>St (·<g) H0 [(g1+2,.row 33 l5.length)] H' g'/\zbm n a0 a1 r4 l5 r6 r7 m4 v=some r) (n:=n) 0 (.k (.k (.k (.k (.k (.k (.k (.k (.k .nil))))))))) ⟨(hS.keep [true] rfl).up (by omega),hM⟩ ?_
    rintro v15 m4 H g4 ⟨hS,hM⟩
    obtain _ | m4:=m4
    ·exact nomatch (show none=some _ from hM)
    change wpA _ _ _ _ (Fr.of [(1,.sl .no 3 (a1.map WireFault.cells)),(2,.ep (Pulse.cells a0)),(5,.ep (Pulse.cells r4)),(6,.sl (.id (g1+2)) 3 (l5.map WireFault.cells)),(7,.sl .no 1 (r6.1.map cI)),(8,.i r6.2),(9,.sl .no 1 (r7.1.map cI)),(10,.i r7.2),(11,.i v15)]) _ _
    replace hS:St (·<g) H0 [(g1+2,.row 33 l5.length)] H g4:=hS
    replace hM:zcZ n a0 a1 r4 l5 r6 r7 (zbm n a0 a1 r4 l5 r6 r7 m4) v15=some r:=hM
    refine Sq ?_
    refine Sq ?_
    refine Rg 4 ?_
    refine Om (.i v15) ?_
    refine Om (.sl (.id (g1+2)) 3 (l5.map WireFault.cells)) ?_
    refine zcj (n:=l5.length) (by decide) rfl (List.length_map _) zfN ?_
    refine Oi (.b (decide (v15<(l5.length:Int)))) ?_
    refine Ni ?_
    refine Ws ?_
    rcases bft (decide (v15<(l5.length:Int))) with hb16 | hb16
    ·replace hM:=ifT hM hb16
     refine Ct hb16 ?_
     refine zar ?_
     refine Ws ?_
     refine Sq ?_
     refine zaq ?_
     refine Sq ?_
     have hS0:=hS
     refine zd1 (n:=9) rfl (by kernel_rfl) ?_
     refine Om (.sl (.id (g1+2)) 3 (l5.map WireFault.cells)) ?_
     refine Om (.i v15) ?_
     obtain ⟨x17,hx17,hM⟩:=zai hM
     refine zaU (xs:=l5) (f:=WireFault.cells) (z:=v15) (u:=x17) (by decide) rfl rfl zca hx17 ?_
     refine Olg (.agg (WireFault.cells x17)) zcb ?_
     refine Om (.sl .no 3 (a1.map WireFault.cells)) ?_
     refine Om (.i v15) ?_
     obtain ⟨x18,hx18,hM⟩:=zai hM
     refine zaU (xs:=a1) (f:=WireFault.cells) (z:=v15) (u:=x18) (by decide) rfl rfl zca hx18 ?_
     refine Olg (.agg (WireFault.cells x18)) zcb ?_
     refine zvD (cs:=(WireFault.cells x17)) (ds:=(WireFault.cells x18)) (e:=((x17.Kind==x18.Kind)&&((x17.A==x18.A)&&((x17.B==x18.B)&&true)))) (by decide) rfl rfl zkL rfl ?_
     refine Ni ?_
     refine Ws ?_
     rcases bft (!((x17.Kind==x18.Kind)&&((x17.A==x18.A)&&((x17.B==x18.B)&&true)))) with hb19 | hb19
     ·replace hM:=ifT hM hb19
      refine Ct hb19 ?_
      refine Sq ?_
      refine Rg 1 ?_
      refine Oa (.b false) ?_
      refine Ni ?_
      replace hS:=hS.keep (L':=[]) [false] rfl
      refine Ws ?_
      refine zaA ?_
      refine zas ?_
      refine zam ?_
      refine zaL ?_
      refine zas ?_
      refine zaI ?_
      refine zaJ (x:=.b false) (f:=fun r=>.b r) (.inr rfl) ?_ (.refl _) (Option.some.inj hM) hS
      exact (zao (zac (x:=.b false) rfl))
     ·replace hM:=ifF hM hb19
      refine Cf hb19 ?_
      refine zar ?_
      refine zae ?_
      refine Ws ?_
      refine Rg 3 ?_
      refine Om (.i v15) ?_
      refine Oi (.i (w64 (v15+1))) ?_
      refine Oa (.i (w64 (v15+1))) ?_
      refine Ni ?_
      exact zaW (w64 (v15+1)) (Nat.lt_succ_self _) (.k (.k (.k (.k (.k (.k (.k (.k (.k .nil))))))))) ⟨(hS.keep [true] rfl).up (by omega),hM⟩
    ·replace hM:=ifF hM hb16
     refine Cf hb16 ?_
     refine zbl ?_
     refine zap ?_
     refine zan ?_
     refine zat ?_
     exact zag () (.k (.k (.k (.k (.k (.k .nil)))))) ⟨(hS.keep [false] rfl).up (by omega),hM⟩
 ·refine Rg 7 ?_
  refine Olg (.agg (Pulse.cells a0)) za0 ?_
  obtain ⟨r20,hr20,hM⟩:=zai hM
  refine zau (bs:=[.agg (Pulse.cells a0)]) (by decide) rfl rfl ((zn0 hr20).le (.k .nil)) ?_
  refine Om (.b r20) ?_
  rcases bft r20 with hb21 | hb21
  ·replace hM:=ifT hM hb21
   refine On (want:=false) hb21 ?_
   refine On (want:=false) hb21 ?_
   refine On (want:=false) hb21 ?_
   refine Pt (.b true) hb21 ?_
   refine Ni ?_
   exact zag true (.k (.k (.k .nil))) ⟨(hS.keep [] rfl).up (by omega),hM⟩
  ·replace hM:=ifF hM hb21
   refine Oy (want:=false) hb21 ?_
   refine Om (.sl .no 3 (a1.map WireFault.cells)) ?_
   refine Oy (want:=false) hb21 ?_
   refine zcj (n:=a1.length) (by decide) rfl (List.length_map _) zfN ?_
   refine Oy (want:=false) hb21 ?_
   refine Oi (.b (decide ((a1.length:Int)>40))) ?_
   refine Pf (.b (decide ((a1.length:Int)>40))) hb21 ?_
   refine Ni ?_
   exact zag (decide ((a1.length:Int)>40)) (.k (.k (.k .nil))) ⟨(hS.keep [] rfl).up (by omega),hM⟩
end Go.Proofs.Ytebfppngmmdfkaa
