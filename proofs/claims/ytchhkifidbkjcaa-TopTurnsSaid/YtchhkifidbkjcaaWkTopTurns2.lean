/-
  The code returns what the functions say (printed by gen.py).
  Conditions: none.
-/
import Derived.Test.YtchhkifidbkjcaaWkTopTurns1
import Derived.Test.YtchhkifidbkjcaaAmPh
import Derived.Test.YtchhkifidbkjcaaSh
import Derived.Test.YtchhkifidbkjcaaKs
import Derived.Test.YtchhkifidbkjcaaEn
set_option linter.all false
namespace Go.Proofs.Ytchhkifidbkjcaa
open Go Go.AM Go.Law
set_option linter.unusedVariables false
set_option maxRecDepth 4000
set_option maxHeartbeats 4000000
theorem zk7 {n:Nat} {a0:Box} {r:Int} (hM:zfF n a0=some r):zaR Try.prog 44 [.agg (Box.cells a0)] (.i r):=by
 refine zaz mixed Try.func44 rfl (by decide) Try.ntmps44 (by simp) ?pure fun H0 g hf=>?_
 case pure=>exact .v _
 rw [zah]
 change wpA _ _ _ _ (Fr.of [(0,.agg (Box.cells a0))]) H0 g
 have hS:=St.start hf
 refine Sq ?_
 refine Rg 2 ?_
 refine zcg (v:=.agg (Box.cells a0)) (cs:=(Box.cells a0)) hS (by decide) rfl rfl (by omega) fun H hS=>?_
 refine Oa (.i 0) ?_
 refine Ni ?_
 refine zaW (L':=[]) 0 1 hS rfl rfl rfl fun H hS=>?_
 refine Ws ?_
 refine Sq ?_
 refine zaY (J:=Bool) (fun j=>[(1,.ep (Box.cells a0)),(23,.b j)]) (fun j H' g'=>St (·<g) H0 [] H' g'/\zcN n a0 j=some r) ?_ ?_
 ·rintro v1 H g1 ⟨hS,hM⟩
  change wpA _ _ _ _ (Fr.of [(1,.ep (Box.cells a0)),(23,.b v1)]) _ _
  replace hS:St (·<g) H0 [] H g1:=hS
  replace hM:zcN n a0 v1=some r:=hM
  rcases bft v1 with hb2 | hb2
  ·replace hM:=ifT hM hb2
   refine Ct hb2 ?_
   refine Sq ?_
   refine Rg 1 ?_
   refine Oa (.i 50) ?_
   refine Ni ?_
   refine Ws ?_
   refine zaS ?_
   refine zao ?_
   refine zbe (x:=.i 50) (f:=fun r=>.i r) (.inr rfl) ?_ (.refl _) (Option.some.inj hM) hS
   exact (zaw (zae (x:=.i 50) rfl))
  ·replace hM:=ifF hM hb2
   refine Cf hb2 ?_
   refine zay ?_
   refine Ws ?_
   refine Sq ?_
   refine Rg 1 ?_
   refine Oa (.i 0) ?_
   refine Ni ?_
   refine Ws ?_
   refine zaY (J:=Unit) (fun j=>[(1,.ep (Box.cells a0)),(3,.i 0)]) (fun j H' g'=>St (·<g) H0 [] H' g'/\zfy n a0=some r) ?_ ?_
   ·rintro _ H g2 ⟨hS,hM⟩
    change wpA _ _ _ _ (Fr.of [(1,.ep (Box.cells a0)),(3,.i 0)]) _ _
    replace hS:St (·<g) H0 [] H g2:=hS
    replace hM:zfy n a0=some r:=hM
    refine zaY (J:=Int) (fun j=>[(3,.i j)]) (fun j H' g'=>St (·<g) H0 [] H' g'/\zem j=some r) ?_ ?_
    ·rintro v3 H g3 ⟨hS,hM⟩
     change wpA _ _ _ _ (Fr.of [(3,.i v3)]) _ _
     replace hS:St (·<g) H0 [] H g3:=hS
     replace hM:zem v3=some r:=hM
     refine Sq ?_
     refine Sq ?_
     refine Rg 2 ?_
     refine Om (.i v3) ?_
     refine Oi (.b (decide (v3>12))) ?_
     refine Ni ?_
     refine Ws ?_
     rcases bft (decide (v3>12)) with hb4 | hb4
     ·replace hM:=ifT hM hb4
      refine Ct hb4 ?_
      refine Sq ?_
      refine Rg 1 ?_
      refine Oa (.i 50) ?_
      refine Ni ?_
      refine Ws ?_
      refine zaS ?_
      refine zao ?_
      refine zbe (x:=.i 50) (f:=fun r=>.i r) (.inr rfl) ?_ (.refl _) (Option.some.inj hM) hS
      exact (zaw (zae (x:=.i 50) rfl))
     ·replace hM:=ifF hM hb4
      refine Cf hb4 ?_
      refine zay ?_
      refine Ws ?_
      refine Sq ?_
      refine Rg 1 ?_
      refine Oa (.i 0) ?_
      refine Ni ?_
      refine Ws ?_
      refine zaS ?_
      refine zbe (x:=.i 0) (f:=fun r=>.i r) (.inr rfl) ?_ (.refl _) (Option.some.inj hM) hS
      exact (zaw (zae (x:=.i 0) rfl))
    ·refine Sq ?_
     refine Rg 4 ?_
     refine Of ((Box.cells a0)) zkY ?_
     refine Olp (.sl .no 1 (a0.Found.map cI)) zaI zaU ?_
     refine zb9 (n:=a0.Found.length) (by decide) rfl (List.length_map _) zaQ ?_
     refine Om (.i 0) ?_
     refine Ni ?_
     refine Ws ?_
     refine zaB ?_
     refine zco (V:=Int×Int) (fun v=>[(1,.ep (Box.cells a0)),(3,.i v.1),(47,.sl .no 1 (a0.Found.map cI)),(48,.i (a0.Found.length:Int)),(49,.i v.2)]) (fun v m4 H' g'=>St (·<g) H0 [] H' g'/\zbw a0 m4 v.1 v.2=some r) (n:=n) (0,0) (.k (.k (.k (.k (.k .nil))))) ⟨(hS.keep [] rfl).up (by omega),hM⟩ ?_
     rintro ⟨v5,v6⟩ m4 H g4 ⟨hS,hM⟩
     obtain _ | m4:=m4
     ·exact nomatch (show none=some _ from hM)
     change wpA _ _ _ _ (Fr.of [(1,.ep (Box.cells a0)),(3,.i v5),(47,.sl .no 1 (a0.Found.map cI)),(48,.i (a0.Found.length:Int)),(49,.i v6)]) _ _
     replace hS:St (·<g) H0 [] H g4:=hS
     replace hM:zdG a0 (zbw a0 m4) v5 v6=some r:=hM
     refine Sq ?_
     refine Rg 1 ?_
     refine Oi (.b (decide (v6<(a0.Found.length:Int)))) ?_
     refine Ni ?_
     refine Ws ?_
     refine Sq ?_
     rcases bft (decide (v6<(a0.Found.length:Int))) with hb7 | hb7
     ·replace hM:=ifT hM hb7
      refine Ct hb7 ?_
      refine zay ?_
      refine Ws ?_
      refine Sq ?_
      refine zaB ?_
      refine Sq ?_
      refine Rg 5 ?_
      refine Om (.i v6) ?_
      obtain ⟨x8,hx8,hM⟩:=zaj hM
      refine za8 (xs:=a0.Found) (f:=cI) (z:=v6) (u:=x8) (by decide) rfl rfl zaP hx8 ?_
      refine Olp (.i x8) zaf zal ?_
      refine Oa (.i v6) ?_
      refine Oa (.i x8) ?_
      refine Ni ?_
      refine Ws ?_
      refine Sq ?_
      refine Sq ?_
      refine Rg 7 ?_
      refine Of ((Box.cells a0)) znO ?_
      refine Olp (.sl .no 1 (a0.Marked.map cI)) zaI zaU ?_
      refine Om (.i v6) ?_
      obtain ⟨x9,hx9,hM⟩:=zaj hM
      refine za8 (xs:=a0.Marked) (f:=cI) (z:=v6) (u:=x9) (by decide) rfl rfl zaP hx9 ?_
      refine Olp (.i x9) zaf zal ?_
      refine Om (.i x8) ?_
      refine Oi (.b (decide (x9>x8))) ?_
      refine Ni ?_
      refine Ws ?_
      rcases bft (decide (x9>x8)) with hb10 | hb10
      ·replace hM:=ifT hM hb10
       refine Ct hb10 ?_
       refine Sq ?_
       refine Rg 1 ?_
       refine Oa (.i 50) ?_
       refine Ni ?_
       refine Ws ?_
       refine zaS ?_
       refine zao ?_
       refine zaV ?_
       refine zao ?_
       refine zbA ?_
       refine zaV ?_
       refine zcn ?_
       refine zbe (x:=.i 50) (f:=fun r=>.i r) (.inr rfl) ?_ (.refl _) (Option.some.inj hM) hS
       exact (zaw (zae (x:=.i 50) rfl))
      ·replace hM:=ifF hM hb10
       refine Cf hb10 ?_
       refine zay ?_
       refine Ws ?_
       refine Rg 10 ?_
       refine Om (.i v5) ?_
       refine Om (.i x8) ?_
       refine Of ((Box.cells a0)) zkZ ?_
       refine Olp (.sl .no 1 (a0.Slugs.map cI)) zaI zaU ?_
       refine Om (.i v6) ?_
       obtain ⟨x11,hx11,hM⟩:=zaj hM
       refine za8 (xs:=a0.Slugs) (f:=cI) (z:=v6) (u:=x11) (by decide) rfl rfl zaP hx11 ?_
       refine Olp (.i x11) zaf zal ?_
       refine Oi (.i (w64 (x8+x11))) ?_
       refine Oi (.i (w64 (v5+(w64 (x8+x11))))) ?_
       refine Oa (.i (w64 (v5+(w64 (x8+x11))))) ?_
       refine Ni ?_
       refine zas ?_
       refine Ws ?_
       refine Rg 2 ?_
       refine Oi (.i (w64 (v6+1))) ?_
       refine Om (.i (w64 (v6+1))) ?_
       refine Ni ?_
       exact zbo (w64 (v5+(w64 (x8+x11))),w64 (v6+1)) (Nat.lt_succ_self _) (.k (.k (.k (.k (.k .nil))))) ⟨(hS.keep [] rfl).up (by omega),hM⟩
     ·replace hM:=ifF hM hb7
      refine Cf hb7 ?_
      refine zb1 ?_
      refine zav ?_
      refine zau ?_
      refine zaD ?_
      exact zai v5 (.k .nil) ⟨(hS.keep [] rfl).up (by omega),hM⟩
   ·refine Sq ?_
    refine Rg 8 ?_
    refine Of ((Box.cells a0)) zkY ?_
    refine Olp (.sl .no 1 (a0.Found.map cI)) zaI zaU ?_
    refine Of ((Box.cells a0)) znO ?_
    refine Olp (.sl .no 1 (a0.Marked.map cI)) zaI zaU ?_
    refine Of ((Box.cells a0)) zkZ ?_
    refine Olp (.sl .no 1 (a0.Slugs.map cI)) zaI zaU ?_
    refine zbf (cs:=[.sl .no 1 (a0.Found.map cI),.sl .no 1 (a0.Marked.map cI),.sl .no 1 (a0.Slugs.map cI)]) (by decide) zqN zt4 rfl ?_
    refine Om (.i 0) ?_
    refine Ni ?_
    refine Ws ?_
    refine zaB ?_
    refine zco (V:=Int) (fun v=>[(1,.ep (Box.cells a0)),(3,.i 0),(30,.agg [.sl .no 1 (a0.Found.map cI),.sl .no 1 (a0.Marked.map cI),.sl .no 1 (a0.Slugs.map cI)]),(31,.i v)]) (fun v m5 H' g'=>St (·<g) H0 [] H' g'/\zaM n a0 m5 v=some r) (n:=n) 0 (.k (.k (.k (.k .nil)))) ⟨(hS.keep [] rfl).up (by omega),hM⟩ ?_
    rintro v12 m5 H g5 ⟨hS,hM⟩
    obtain _ | m5:=m5
    ·exact nomatch (show none=some _ from hM)
    change wpA _ _ _ _ (Fr.of [(1,.ep (Box.cells a0)),(3,.i 0),(30,.agg [.sl .no 1 (a0.Found.map cI),.sl .no 1 (a0.Marked.map cI),.sl .no 1 (a0.Slugs.map cI)]),(31,.i v12)]) _ _
    replace hS:St (·<g) H0 [] H g5:=hS
    replace hM:zeD n a0 (zaM n a0 m5) v12=some r:=hM
    refine Sq ?_
    refine Rg 1 ?_
    refine Oi (.b (decide (v12<3))) ?_
    refine Ni ?_
    refine Ws ?_
    refine Sq ?_
    rcases bft (decide (v12<3)) with hb13 | hb13
    ·replace hM:=ifT hM hb13
     refine Ct hb13 ?_
     refine zay ?_
     refine Ws ?_
     refine Sq ?_
     refine zaB ?_
     refine Sq ?_
     refine Rg 2 ?_
     obtain ⟨x14,hx14,hM⟩:=zaj hM
     refine zmq (v:=.sl .no 1 (x14.map cI)) (cs:=[.sl .no 1 (a0.Found.map cI),.sl .no 1 (a0.Marked.map cI),.sl .no 1 (a0.Slugs.map cI)]) (z:=v12) (by decide) rfl rfl zsq (zeO hx14).1 (zmv hx14) (ztL (xs:=([a0.Found,a0.Marked,a0.Slugs]:List (List Int))) (f:=cI) zaI zaU hx14) ?_
     refine Oa (.sl .no 1 (x14.map cI)) ?_
     refine Ni ?_
     refine Ws ?_
     refine zaY (J:=Bool) (fun j=>[(1,.ep (Box.cells a0)),(3,.i 0),(30,.agg [.sl .no 1 (a0.Found.map cI),.sl .no 1 (a0.Marked.map cI),.sl .no 1 (a0.Slugs.map cI)]),(31,.i v12),(44,.b j)]) (fun j H' g'=>St (·<g) H0 [] H' g'/\zdu (zaM n a0 m5) v12 j=some r) ?_ ?_
     ·rintro v15 H g6 ⟨hS,hM⟩
      change wpA _ _ _ _ (Fr.of [(1,.ep (Box.cells a0)),(3,.i 0),(30,.agg [.sl .no 1 (a0.Found.map cI),.sl .no 1 (a0.Marked.map cI),.sl .no 1 (a0.Slugs.map cI)]),(31,.i v12),(44,.b v15)]) _ _
      replace hS:St (·<g) H0 [] H g6:=hS
      replace hM:zdu (zaM n a0 m5) v12 v15=some r:=hM
      rcases bft v15 with hb16 | hb16
      ·replace hM:=ifT hM hb16
       refine Ct hb16 ?_
       refine Sq ?_
       refine Rg 1 ?_
       refine Oa (.i 50) ?_
       refine Ni ?_
       refine Ws ?_
       refine zaS ?_
       refine zaV ?_
       refine zao ?_
       refine zbA ?_
       refine zaV ?_
       refine zcn ?_
       refine zbe (x:=.i 50) (f:=fun r=>.i r) (.inr rfl) ?_ (.refl _) (Option.some.inj hM) hS
       exact (zaw (zae (x:=.i 50) rfl))
      ·replace hM:=ifF hM hb16
       refine Cf hb16 ?_
       refine zay ?_
       refine zas ?_
       refine Ws ?_
       refine Rg 2 ?_
       refine Oi (.i (w64 (v12+1))) ?_
       refine Om (.i (w64 (v12+1))) ?_
       refine Ni ?_
       exact zbo (w64 (v12+1)) (Nat.lt_succ_self _) (.k (.k (.k (.k .nil)))) ⟨(hS.keep [] rfl).up (by omega),hM⟩
     ·refine Rg 11 ?_
      refine Om (.sl .no 1 (x14.map cI)) ?_
      refine zb9 (n:=x14.length) (by decide) rfl (List.length_map _) zaQ ?_
      refine Of ((Box.cells a0)) zfY ?_
      refine Of ((Box.cells a0)) zcE ?_
      refine Olp (.sl .no 1 (a0.Wheel.Coins.map cI)) zaI zaU ?_
      refine zb9 (n:=a0.Wheel.Coins.length) (by decide) rfl (List.length_map _) zaQ ?_
      refine Oi (.b ((x14.length:Int) != (a0.Wheel.Coins.length:Int))) ?_
      refine Om (.b ((x14.length:Int) != (a0.Wheel.Coins.length:Int))) ?_
      rcases bft ((x14.length:Int) != (a0.Wheel.Coins.length:Int)) with hb17 | hb17
      ·replace hM:=ifT hM hb17
       refine On (want:=false) hb17 ?_
       refine On (want:=false) hb17 ?_
       refine Pt (.b true) hb17 ?_
       refine Ni ?_
       exact zai true (.k (.k (.k (.k (.k .nil))))) ⟨(hS.keep [] rfl).up (by omega),hM⟩
      ·replace hM:=ifF hM hb17
       refine Oy (want:=false) hb17 ?_
       refine Om (.sl .no 1 (x14.map cI)) ?_
       refine Oy (want:=false) hb17 ?_
       obtain ⟨r18,hr18,hM⟩:=zaj hM
       refine zaO (bs:=[.sl .no 1 (x14.map cI),.fn (.func 52) [] []]) (by decide) rfl rfl (zgc ((zc0 (Lo:=(fun (_:Unit)=>[]))  (fun _ _=>zfS) (fun _=>List.nodup_nil) (fun _=>zeW) (aF:=(fun (x0:Int) (_:Unit)=>(zdt x0).map fun y=>(y,()))) (fun _ H hH=>(.fn _ _ _ zb2 zb2)) rfl (fun h=>zj4 (zi4 (zht h))) hr18).le (.k (.k .nil)))) ?_
       refine Pf (.b r18.1) hb17 ?_
       refine Ni ?_
       exact zai r18.1 (.k (.k (.k (.k (.k .nil))))) ⟨(hS.keep [] rfl).up (by omega),hM⟩
    ·replace hM:=ifF hM hb13
     refine Cf hb13 ?_
     refine zb1 ?_
     refine zav ?_
     refine zau ?_
     refine zaD ?_
     exact zai () (.k (.k .nil)) ⟨(hS.keep [] rfl).up (by omega),hM⟩
 ·refine Rg 16 ?_
  refine Of ((Box.cells a0)) zfY ?_
  refine Olg (.agg (Wheel.cells a0.Wheel)) zdq ?_
  obtain ⟨r19,hr19,hM⟩:=zaj hM
  refine zaO (bs:=[.agg (Wheel.cells a0.Wheel)]) (by decide) rfl rfl ((zi3 hr19).le (.k .nil)) ?_
  refine Oi (.b (r19 != 0)) ?_
  refine Om (.b (r19 != 0)) ?_
  rcases bft (r19 != 0) with hb20 | hb20
  ·replace hM:=ifT hM hb20
   refine On (want:=false) hb20 ?_
   refine On (want:=false) hb20 ?_
   refine On (want:=false) hb20 ?_
   refine On (want:=false) hb20 ?_
   refine Pt (.b true) hb20 ?_
   refine Om (.b true) ?_
   refine Og ?_
   refine Og ?_
   refine Og ?_
   refine Og ?_
   refine zbN (v:=.b true) (e:=true) (by decide) rfl rfl rfl ?_
   refine Ni ?_
   exact zai true (.k (.k .nil)) ⟨(hS.keep [] rfl).up (by omega),hM⟩
  ·replace hM:=ifF hM hb20
   refine Oy (want:=false) hb20 ?_
   refine Of ((Box.cells a0)) zk0 ?_
   refine Oy (want:=false) hb20 ?_
   refine Olp (.i a0.Plays) zaf zal ?_
   refine Oy (want:=false) hb20 ?_
   obtain ⟨r21,hr21,hM⟩:=zaj hM
   refine zaO (bs:=[.i a0.Plays,.i 0,.i 9999]) (by decide) rfl rfl ((zeo hr21).le (.k (.k (.k .nil)))) ?_
   refine Oy (want:=false) hb20 ?_
   refine zc5 (e:=r21) (by decide) rfl ?_
   refine Pf (.b (!r21)) hb20 ?_
   refine Om (.b (!r21)) ?_
   rcases bft (!r21) with hb22 | hb22
   ·replace hM:=ifT hM hb22
    refine On (want:=false) hb22 ?_
    refine On (want:=false) hb22 ?_
    refine On (want:=false) hb22 ?_
    refine On (want:=false) hb22 ?_
    refine Pt (.b true) hb22 ?_
    refine Ni ?_
    exact zai true (.k (.k .nil)) ⟨(hS.keep [] rfl).up (by omega),hM⟩
   ·replace hM:=ifF hM hb22
    refine Oy (want:=false) hb22 ?_
    refine Of ((Box.cells a0)) znP ?_
    refine Oy (want:=false) hb22 ?_
    refine Olp (.i a0.Skips) zaf zal ?_
    refine Oy (want:=false) hb22 ?_
    obtain ⟨r23,hr23,hM⟩:=zaj hM
    refine zaO (bs:=[.i a0.Skips,.i 0,.i 9]) (by decide) rfl rfl ((zeo hr23).le (.k (.k (.k .nil)))) ?_
    refine Oy (want:=false) hb22 ?_
    refine zc5 (e:=r23) (by decide) rfl ?_
    refine Pf (.b (!r23)) hb22 ?_
    refine Ni ?_
    exact zai (!r23) (.k (.k .nil)) ⟨(hS.keep [] rfl).up (by omega),hM⟩
theorem zlw {n:Nat} {a0:Box} {r:(Option Box_)×Int} (hM:zgf n a0=some r):zaR Try.prog 36 [.agg (Box.cells a0)] (.tup [pA Box_.cells r.1,.i r.2]):=by
 refine zaz mixed Try.func36 rfl (by decide) Try.ntmps36 (by simp) ?pure fun H0 g hf=>?_
 case pure=>exact .tup _ (zab (zoJ (fun x=>(zab (.v _) (zab (.sl _ _ (zaA (fun x=>(zab (.v _) zaJ)))) (zab (.sl _ _ (zaA (fun x=>(zab (.v _) zaJ)))) (zab (.sl _ _ (zaA (fun x=>(zab (.v _) zaJ)))) (zab (.sl _ _ (zaA (fun x=>(zab (.v _) zaJ)))) (zab (.sl _ _ (zaA (fun x=>(zab (.v _) zaJ)))) (zab (.v _) (zab (.v _) zaJ))))))))) _) (zab (.v _) zaJ))
 rw [zah]
 change wpA _ _ _ _ (Fr.of [(0,.agg (Box.cells a0))]) H0 g
 have hS:=St.start hf
 refine Sq ?_
 refine Rg 3 ?_
 refine zcg (v:=.agg (Box.cells a0)) (cs:=(Box.cells a0)) hS (by decide) rfl rfl (by omega) fun H hS=>?_
 refine Oa (pA Box_.cells (none:Option Box_)) ?_
 refine Oa (.i 0) ?_
 refine Ni ?_
 refine zaW (L':=[]) 0 1 hS rfl rfl rfl fun H hS=>?_
 refine Ws ?_
 refine Sq ?_
 refine Sq ?_
 refine Rg 3 ?_
 refine Olg (.agg (Box.cells a0)) zj8 ?_
 obtain ⟨r1,hr1,hM⟩:=zaj hM
 refine zaO (bs:=[.agg (Box.cells a0)]) (by decide) rfl rfl ((zk7 hr1).le (.k .nil)) ?_
 refine Oa (.i r1) ?_
 refine Ni ?_
 refine Ws ?_
 refine Sq ?_
 refine Rg 2 ?_
 refine Om (.i r1) ?_
 refine Oi (.b (r1 != 0)) ?_
 refine Ni ?_
 refine Ws ?_
 rcases bft (r1 != 0) with hb2 | hb2
 ·replace hM:=ifT hM hb2
  refine Ct hb2 ?_
  refine Sq ?_
  refine Rg 3 ?_
  refine Om (.i r1) ?_
  refine Oa (pA Box_.cells (none:Option Box_)) ?_
  refine Oa (.i r1) ?_
  refine Ni ?_
  refine Ws ?_
  refine zaS ?_
  refine zao ?_
  refine zbe (x:=.tup [pA Box_.cells (none:Option Box_),.i r1]) (f:=fun r=>.tup [pA Box_.cells r.1,.i r.2]) (.inr rfl) ?_ (.refl _) (Option.some.inj hM) hS
  exact (zdC (zae (x:=pA Box_.cells (none:Option Box_)) rfl) (zae (x:=.i r1) rfl))
 ·replace hM:=ifF hM hb2
  refine Cf hb2 ?_
  refine zay ?_
  refine Ws ?_
  refine Sq ?_
  refine Rg 5 ?_
  refine Olg (.agg (Box.cells a0)) zj8 ?_
  refine zbf (cs:=(Box.cells a0)) (by decide) zsp zvs rfl ?_
  refine zcg (v:=.agg (Box.cells a0)) (cs:=(Box.cells a0)) hS (by decide) rfl rfl (by omega) fun H hS=>?_
  refine Oa (.ptr (g+3+3+2+2) 0) ?_
  refine Oa (.i 0) ?_
  refine Ni ?_
  refine zaW (L':=[]) 0 2 hS rfl rfl rfl fun H hS=>?_
  refine Ws ?_
  refine zaS ?_
  refine zbe (x:=.tup [.ep (Box.cells a0),.i 0]) (f:=fun r=>.tup [pA Box_.cells r.1,.i r.2]) (.inr rfl) ?_ (.tupL (.k (.k .nil))) (Option.some.inj hM) hS
  exact (zdC (zae (x:=.ep (Box.cells a0)) rfl) (zae (x:=.i 0) rfl))
theorem zi5 {a0:List Int} {r:List Int} (hM:slices_Clone_int a0=some r):zf9 Try.prog 53 [.sl .no 1 (a0.map cI)] 3 1 (r.map cI):=by
 have hr:r=a0:=by
  unfold slices_Clone_int app at hM
  split at hM
  ·injection hM with hM;rw [←hM];rfl
  ·cases hM
 refine zoG mixed Try.func53 rfl (by decide) Try.ntmps53 (by simp) ?pure fun H0 g hf=>?_
 case pure=>exact zaA (fun x=>(zab (.v _) zaJ))
 rw [zah]
 change wpA _ _ _ _ (Fr.of [(0,.sl .no 1 (a0.map cI))]) H0 g
 have hS:=St.start hf
 refine Sq ?_
 refine Rg 1 ?_
 refine Oa (.sl .nil 0 []) ?_
 refine Ni ?_
 refine Ws ?_
 refine Sq ?_
 refine Sq ?_
 refine Rg 2 ?_
 refine Om (.sl .no 1 (a0.map cI)) ?_
 refine zyi (t:=22) (tg:=.no) (k:=1) (es:=a0.map cI) (e:=true) (by decide) rfl rfl rfl rfl zaQ (fun _=>?_) (fun hnil=>?_)
 ·refine Ni ?_
  refine Ws ?_
  refine zeV (e:=false==true) rfl rfl ?_
  refine zay ?_
  refine Ws ?_
  refine Sq ?_
  refine Rg 4 ?_
  refine zbg (es:=[]) hS (by decide) zaP zdp rfl zcZ rfl (by decide) (by omega) fun H hS=>?_
  refine Om (.sl .no 1 (a0.map cI)) ?_
  refine zj2 (xs:=([]:List Int)) (ys:=a0) (zs:=r) (f:=cI) (L':=[(g+1+2+0,.row 3 r.length)]) 0 hS (by decide) rfl rfl rfl rfl .no zaP zdp zcZ hM rfl fun H hS=>?_
  refine Oa (.sl (.id (g+1+2+0)) 1 (r.map cI)) ?_
  refine Ni ?_
  refine Ws ?_
  refine zaS ?_
  refine zwe (j:=g+1+2+0) 0 (.inr rfl) ?_ hS rfl (List.length_map _).symm
  exact zaw (zae rfl)
 ·refine Ni ?_
  refine Ws ?_
  refine zhq (e:=true==true) rfl rfl ?_
  refine Sq ?_
  refine Rg 1 ?_
  refine Oa (.sl .nil 0 []) ?_
  refine Ni ?_
  refine Ws ?_
  refine zaS ?_
  refine zao ?_
  refine zwf (k':=0) (.inr rfl) ?_ hS (by decide) (by rw [hr];exact hnil)
  exact zaw (zae rfl)
theorem zcF {n:Nat} {a0:Option Box_} {a1:List Int} {r:Int} (hM:zcc n a0 a1=some r):zaR Try.prog 24 [pA Box_.cells a0,.sl .no 1 (a1.map cI)] (.i r):=by
 refine zaz mixed Try.func24 rfl (by decide) Try.ntmps24 (by simp) ?pure fun H0 g hf=>?_
 case pure=>exact .v _
 rw [zah]
 change wpA _ _ _ _ (Fr.of [(0,pA Box_.cells a0),(1,.sl .no 1 (a1.map cI))]) H0 g
 have hS:=St.start hf
 refine Sq ?_
 refine Rg 1 ?_
 refine Oa (.i 0) ?_
 refine Ni ?_
 refine Ws ?_
 refine Sq ?_
 refine Rg 1 ?_
 refine Oa (.i 0) ?_
 refine Ni ?_
 refine Ws ?_
 refine zaY (J:=Int) (fun j=>[(5,.i j)]) (fun j H' g'=>St (·<g) H0 [] H' g'/\zc1 j=some r) ?_ ?_
 ·rintro v1 H g1 ⟨hS,hM⟩
  change wpA _ _ _ _ (Fr.of [(5,.i v1)]) _ _
  replace hS:St (·<g) H0 [] H g1:=hS
  replace hM:zc1 v1=some r:=hM
  refine Sq ?_
  refine Rg 2 ?_
  refine Om (.i v1) ?_
  refine Oa (.i v1) ?_
  refine Ni ?_
  refine Ws ?_
  refine zaS ?_
  refine zbe (x:=.i v1) (f:=fun r=>.i r) (.inr rfl) ?_ (.refl _) (Option.some.inj hM) hS
  exact (zaw (zae (x:=.i v1) rfl))
 ·refine Sq ?_
  refine Rg 3 ?_
  refine Om (.sl .no 1 (a1.map cI)) ?_
  refine zb9 (n:=a1.length) (by decide) rfl (List.length_map _) zaQ ?_
  refine Om (.i 0) ?_
  refine Ni ?_
  refine Ws ?_
  refine zaB ?_
  refine zco (V:=Int×Int) (fun v=>[(0,pA Box_.cells a0),(5,.i v.1),(8,.sl .no 1 (a1.map cI)),(9,.i (a1.length:Int)),(10,.i v.2)]) (fun v m2 H' g'=>St (·<g) H0 [] H' g'/\zbq a0 a1 m2 v.1 v.2=some r) (n:=n) (0,0) (.k (.k (.k (.k (.k .nil))))) ⟨(hS.keep [] rfl).up (by omega),hM⟩ ?_
  rintro ⟨v2,v3⟩ m2 H g2 ⟨hS,hM⟩
  obtain _ | m2:=m2
  ·exact nomatch (show none=some _ from hM)
  change wpA _ _ _ _ (Fr.of [(0,pA Box_.cells a0),(5,.i v2),(8,.sl .no 1 (a1.map cI)),(9,.i (a1.length:Int)),(10,.i v3)]) _ _
  replace hS:St (·<g) H0 [] H g2:=hS
  replace hM:zcH a0 a1 (zbq a0 a1 m2) v2 v3=some r:=hM
  refine Sq ?_
  refine Rg 1 ?_
  refine Oi (.b (decide (v3<(a1.length:Int)))) ?_
  refine Ni ?_
  refine Ws ?_
  refine Sq ?_
  rcases bft (decide (v3<(a1.length:Int))) with hb4 | hb4
  ·replace hM:=ifT hM hb4
   refine Ct hb4 ?_
   refine zay ?_
   refine Ws ?_
   refine Sq ?_
   refine zaB ?_
   refine Sq ?_
   refine Rg 5 ?_
   refine Om (.i v3) ?_
   obtain ⟨x5,hx5,hM⟩:=zaj hM
   refine za8 (xs:=a1) (f:=cI) (z:=v3) (u:=x5) (by decide) rfl rfl zaP hx5 ?_
   refine Olp (.i x5) zaf zal ?_
   refine Oa (.i v3) ?_
   refine Oa (.i x5) ?_
   refine Ni ?_
   refine Ws ?_
   refine Rg 14 ?_
   refine Om (.i v2) ?_
   refine Om (.i x5) ?_
   refine Om (pA Box_.cells a0) ?_
   obtain ⟨x6,hx6,hM⟩:=zaj hM
   refine zh2 (f:=Box_.cells) (p:=a0) (u:=x6) (by decide) rfl hx6 ?_
   refine Of ((Box.cells x6.Box)) zeg ?_
   refine Of ((Box.cells x6.Box)) zfY ?_
   refine Of ((Box.cells x6.Box)) zcE ?_
   refine Olp (.sl .no 1 (x6.Box.Wheel.Coins.map cI)) zaI zaU ?_
   refine Om (.i v3) ?_
   obtain ⟨x7,hx7,hM⟩:=zaj hM
   refine za8 (xs:=x6.Box.Wheel.Coins) (f:=cI) (z:=v3) (u:=x7) (by decide) rfl rfl zaP hx7 ?_
   refine Olp (.i x7) zaf zal ?_
   refine Oi (.i (w64 (x5*x7))) ?_
   refine Oi (.i (w64 (v2+(w64 (x5*x7))))) ?_
   refine Oa (.i (w64 (v2+(w64 (x5*x7))))) ?_
   refine Ni ?_
   refine zas ?_
   refine Ws ?_
   refine Rg 2 ?_
   refine Oi (.i (w64 (v3+1))) ?_
   refine Om (.i (w64 (v3+1))) ?_
   refine Ni ?_
   exact zbo (w64 (v2+(w64 (x5*x7))),w64 (v3+1)) (Nat.lt_succ_self _) (.k (.k (.k (.k (.k .nil))))) ⟨(hS.keep [] rfl).up (by omega),hM⟩
  ·replace hM:=ifF hM hb4
   refine Cf hb4 ?_
   refine zb1 ?_
   refine zav ?_
   refine zau ?_
   refine zaD ?_
   exact zai v2 (.k .nil) ⟨(hS.keep [] rfl).up (by omega),hM⟩
theorem zjo {n:Nat} {a0:Option Box_} {r:Bag_} (hM:zfV n a0=some r):zaR Try.prog 54 [pA Box_.cells a0] (.agg [.i r.c0,.i r.c1,.i r.c2,.i r.c3]):=by
 refine zaz mixed Try.func54 rfl (by decide) Try.ntmps54 (by simp) ?pure fun H0 g hf=>?_
 case pure=>exact .agg _ (zab (.v _) (zab (.v _) (zab (.v _) (zab (.v _) zaJ))))
 rw [zah]
 change wpA _ _ _ _ (Fr.of [(0,pA Box_.cells a0)]) H0 g
 have hS:=St.start hf
 refine Sq ?_
 refine Rg 1 ?_
 refine za4 hS (by decide) zjl (by omega) fun H hS=>?_
 refine Ni ?_
 refine Ws ?_
 refine Sq ?_
 refine Rg 1 ?_
 refine za4 hS (by decide) zjl (by omega) fun H hS=>?_
 refine Ni ?_
 refine Ws ?_
 refine zaY (J:=Int×Int×Int×Int) (fun j=>[(2,.ptr (g+0) 0),(3,.ptr (g+1+0) 0)]) (fun j H' g'=>St (·<g) H0 [(g+1+0,.cells [.i j.1,.i j.2.1,.i j.2.2.1,.i j.2.2.2]),(g+0,.cells [.i 0,.i 0,.i 0,.i 0])] H' g'/\zdH j.1 j.2.1 j.2.2.1 j.2.2.2=some r) ?_ ?_
 ·rintro ⟨v1,v2,v3,v4⟩ H g1 ⟨hS,hM⟩
  change wpA _ _ _ _ (Fr.of [(2,.ptr (g+0) 0),(3,.ptr (g+1+0) 0)]) _ _
  replace hS:St (·<g) H0 [(g+1+0,.cells [.i v1,.i v2,.i v3,.i v4]),(g+0,.cells [.i 0,.i 0,.i 0,.i 0])] H g1:=hS
  replace hM:zdH v1 v2 v3 v4=some r:=hM
  refine Sq ?_
  refine Rg 2 ?_
  refine zaK (v:=.agg [.i v1,.i v2,.i v3,.i v4]) 0 hS (by decide) rfl rfl .no (pg zdX) ?_
  refine zaC (v:=.agg [.i v1,.i v2,.i v3,.i v4]) (ns:=[.i v1,.i v2,.i v3,.i v4]) (L':=[(g+1+0,.cells [.i v1,.i v2,.i v3,.i v4]),(g+0,.cells [.i v1,.i v2,.i v3,.i v4])]) 1 hS rfl rfl .no rfl rfl znG nlb rfl fun H hS=>?_
  refine Ni ?_
  replace hS:=hS.keep (L':=[(g+0,.cells [.i v1,.i v2,.i v3,.i v4])]) [false,true] rfl
  refine Ws ?_
  refine zaS ?_
  refine zbe (x:=.agg [.i v1,.i v2,.i v3,.i v4]) (f:=fun r=>.agg [.i r.c0,.i r.c1,.i r.c2,.i r.c3]) (.inr rfl) ?_ (.refl _) (Option.some.inj hM) hS
  exact (zaw (zdh (x:=.agg [.i v1,.i v2,.i v3,.i v4]) 0 hS rfl rfl (pg zdX)))
 ·refine Sq ?_
  refine Rg 7 ?_
  refine Om (pA Box_.cells a0) ?_
  obtain ⟨x5,hx5,hM⟩:=zaj hM
  refine zh2 (f:=Box_.cells) (p:=a0) (u:=x5) (by decide) rfl hx5 ?_
  refine Of ((Box.cells x5.Box)) zeg ?_
  refine Of ((Box.cells x5.Box)) zkY ?_
  refine Olp (.sl .no 1 (x5.Box.Found.map cI)) zaI zaU ?_
  refine zb9 (n:=x5.Box.Found.length) (by decide) rfl (List.length_map _) zaQ ?_
  refine Om (.i 0) ?_
  refine Ni ?_
  refine Ws ?_
  refine zaB ?_
  refine zco (V:=Int×Int×Int×Int×Int) (fun v=>[(0,pA Box_.cells a0),(2,.ptr (g+0) 0),(3,.ptr (g+1+0) 0),(10,.sl .no 1 (x5.Box.Found.map cI)),(11,.i (x5.Box.Found.length:Int)),(12,.i v.1)]) (fun v m3 H' g'=>St (·<g) H0 [(g+1+0,.cells [.i v.2.1,.i v.2.2.1,.i v.2.2.2.1,.i v.2.2.2.2]),(g+0,.cells [.i 0,.i 0,.i 0,.i 0])] H' g'/\zbS a0 x5 m3 v.1 v.2.1 v.2.2.1 v.2.2.2.1 v.2.2.2.2=some r) (n:=n) (0,0,0,0,0) (.k (.k (.k (.k (.k (.k .nil)))))) ⟨(hS.keep [true,true] rfl).up (by omega),hM⟩ ?_
  rintro ⟨v7,v8,v9,v10,v11⟩ m3 H g3 ⟨hS,hM⟩
  obtain _ | m3:=m3
  ·exact nomatch (show none=some _ from hM)
  change wpA _ _ _ _ (Fr.of [(0,pA Box_.cells a0),(2,.ptr (g+0) 0),(3,.ptr (g+1+0) 0),(10,.sl .no 1 (x5.Box.Found.map cI)),(11,.i (x5.Box.Found.length:Int)),(12,.i v7)]) _ _
  replace hS:St (·<g) H0 [(g+1+0,.cells [.i v8,.i v9,.i v10,.i v11]),(g+0,.cells [.i 0,.i 0,.i 0,.i 0])] H g3:=hS
  replace hM:zc2 a0 x5 (zbS a0 x5 m3) v7 v8 v9 v10 v11=some r:=hM
  refine Sq ?_
  refine Rg 1 ?_
  refine Oi (.b (decide (v7<(x5.Box.Found.length:Int)))) ?_
  refine Ni ?_
  refine Ws ?_
  refine Sq ?_
  rcases bft (decide (v7<(x5.Box.Found.length:Int))) with hb12 | hb12
  ·replace hM:=ifT hM hb12
   refine Ct hb12 ?_
   refine zay ?_
   refine Ws ?_
   refine Sq ?_
   refine zaB ?_
   refine Sq ?_
   refine Rg 5 ?_
   refine Om (.i v7) ?_
   obtain ⟨x13,hx13,hM⟩:=zaj hM
   refine za8 (xs:=x5.Box.Found) (f:=cI) (z:=v7) (u:=x13) (by decide) rfl rfl zaP hx13 ?_
   refine Olp (.i x13) zaf zal ?_
   refine Oa (.i v7) ?_
   refine Oa (.i x13) ?_
   refine Ni ?_
   refine Ws ?_
   refine Rg 13 ?_
   refine Om (.i v7) ?_
   refine Om (.i x13) ?_
   refine Om (pA Box_.cells a0) ?_
   obtain ⟨x14,hx14,hM⟩:=zaj hM
   refine zh2 (f:=Box_.cells) (p:=a0) (u:=x14) (by decide) rfl hx14 ?_
   refine Of ((Box.cells x14.Box)) zeg ?_
   refine Of ((Box.cells x14.Box)) zkZ ?_
   refine Olp (.sl .no 1 (x14.Box.Slugs.map cI)) zaI zaU ?_
   refine Om (.i v7) ?_
   obtain ⟨x15,hx15,hM⟩:=zaj hM
   refine za8 (xs:=x14.Box.Slugs) (f:=cI) (z:=v7) (u:=x15) (by decide) rfl rfl zaP hx15 ?_
   refine Olp (.i x15) zaf zal ?_
   refine Oi (.i (w64 (x13+x15))) ?_
   obtain ⟨x16,hx16,hM⟩:=zaj hM
   refine ze5 (z:=v7) (by decide) rfl rfl zfW (zeO hx16) ?_
   obtain ⟨l17,hl17,hM⟩:=zaj hM
   refine ziF (xs:=([v8,v9,v10,v11]:List Int)) (u:=l17) (z:=v7) (v:=(w64 (x13+x15))) (off:=0) (cs':=[.i (l17.getD 0 0),.i (l17.getD 1 0),.i (l17.getD 2 0),.i (l17.getD 3 0)]) (L':=[(g+1+0,.cells [.i (l17.getD 0 0),.i (l17.getD 1 0),.i (l17.getD 2 0),.i (l17.getD 3 0)]),(g+0,.cells [.i 0,.i 0,.i 0,.i 0])]) 0 hS rfl rfl .no rfl rfl hl17 zdV rfl rfl fun H hS=>?_
   refine Ni ?_
   refine zas ?_
   refine Ws ?_
   refine Rg 2 ?_
   refine Oi (.i (w64 (v7+1))) ?_
   refine Om (.i (w64 (v7+1))) ?_
   refine Ni ?_
   exact zbo (w64 (v7+1),(l17.getD 0 0),(l17.getD 1 0),(l17.getD 2 0),(l17.getD 3 0)) (Nat.lt_succ_self _) (.k (.k (.k (.k (.k (.k .nil)))))) ⟨(hS.keep [true,true] rfl).up (by omega),hM⟩
  ·replace hM:=ifF hM hb12
   refine Cf hb12 ?_
   refine zb1 ?_
   refine zav ?_
   refine zau ?_
   refine zaD ?_
   exact zai (v8,v9,v10,v11) (.k (.k .nil)) ⟨(hS.keep [true,true] rfl).up (by omega),hM⟩
theorem zgl {n:Nat} {a0:Bag_} {r:Int} (hM:zdv n a0=some r):zaR Try.prog 61 [.agg (Bag_.cells a0)] (.i r):=by
 refine zaz mixed Try.func61 rfl (by decide) Try.ntmps61 (by simp) ?pure fun H0 g hf=>?_
 case pure=>exact .v _
 rw [zah]
 change wpA _ _ _ _ (Fr.of [(0,.agg (Bag_.cells a0))]) H0 g
 have hS:=St.start hf
 refine Sq ?_
 refine Rg 2 ?_
 refine zcg (v:=.agg (Bag_.cells a0)) (cs:=(Bag_.cells a0)) hS (by decide) rfl rfl (by omega) fun H hS=>?_
 refine Oa (.i 0) ?_
 refine Ni ?_
 refine zaW (L':=[]) 0 1 hS rfl rfl rfl fun H hS=>?_
 refine Ws ?_
 refine Sq ?_
 refine Rg 1 ?_
 refine Oa (.i 0) ?_
 refine Ni ?_
 refine Ws ?_
 refine zaY (J:=Int) (fun j=>[(3,.i j)]) (fun j H' g'=>St (·<g) H0 [] H' g'/\zdk j=some r) ?_ ?_
 ·rintro v1 H g1 ⟨hS,hM⟩
  change wpA _ _ _ _ (Fr.of [(3,.i v1)]) _ _
  replace hS:St (·<g) H0 [] H g1:=hS
  replace hM:zdk v1=some r:=hM
  refine Sq ?_
  refine Rg 2 ?_
  refine Om (.i v1) ?_
  refine Oa (.i v1) ?_
  refine Ni ?_
  refine Ws ?_
  refine zaS ?_
  refine zbe (x:=.i v1) (f:=fun r=>.i r) (.inr rfl) ?_ (.refl _) (Option.some.inj hM) hS
  exact (zaw (zae (x:=.i v1) rfl))
 ·refine Sq ?_
  refine Rg 2 ?_
  refine Olg (.agg (Bag_.cells a0)) zdX ?_
  refine Om (.i 0) ?_
  refine Ni ?_
  refine Ws ?_
  refine zaB ?_
  refine zco (V:=Int×Int) (fun v=>[(3,.i v.1),(6,.agg (Bag_.cells a0)),(7,.i v.2)]) (fun v m2 H' g'=>St (·<g) H0 [] H' g'/\zbi a0 m2 v.1 v.2=some r) (n:=n) (0,0) (.k (.k (.k .nil))) ⟨(hS.keep [] rfl).up (by omega),hM⟩ ?_
  rintro ⟨v2,v3⟩ m2 H g2 ⟨hS,hM⟩
  obtain _ | m2:=m2
  ·exact nomatch (show none=some _ from hM)
  change wpA _ _ _ _ (Fr.of [(3,.i v2),(6,.agg (Bag_.cells a0)),(7,.i v3)]) _ _
  replace hS:St (·<g) H0 [] H g2:=hS
  replace hM:zcS a0 (zbi a0 m2) v2 v3=some r:=hM
  refine Sq ?_
  refine Rg 1 ?_
  refine Oi (.b (decide (v3<4))) ?_
  refine Ni ?_
  refine Ws ?_
  refine Sq ?_
  rcases bft (decide (v3<4)) with hb4 | hb4
  ·replace hM:=ifT hM hb4
   refine Ct hb4 ?_
   refine zay ?_
   refine Ws ?_
   refine Sq ?_
   refine zaB ?_
   refine Sq ?_
   refine Rg 2 ?_
   obtain ⟨x5,hx5,hM⟩:=zaj hM
   refine zmq (v:=.i x5) (cs:=(Bag_.cells a0)) (z:=v3) (by decide) rfl rfl zsr (zeO hx5).1 (zmv hx5) (zpr (xs:=([a0.c0,a0.c1,a0.c2,a0.c3]:List Int)) zaf zal rfl hx5) ?_
   refine Oa (.i x5) ?_
   refine Ni ?_
   refine Ws ?_
   refine Rg 4 ?_
   refine Om (.i v2) ?_
   refine Om (.i x5) ?_
   refine Oi (.i (w64 (v2+x5))) ?_
   refine Oa (.i (w64 (v2+x5))) ?_
   refine Ni ?_
   refine zas ?_
   refine Ws ?_
   refine Rg 2 ?_
   refine Oi (.i (w64 (v3+1))) ?_
   refine Om (.i (w64 (v3+1))) ?_
   refine Ni ?_
   exact zbo (w64 (v2+x5),w64 (v3+1)) (Nat.lt_succ_self _) (.k (.k (.k .nil))) ⟨(hS.keep [] rfl).up (by omega),hM⟩
  ·replace hM:=ifF hM hb4
   refine Cf hb4 ?_
   refine zb1 ?_
   refine zav ?_
   refine zau ?_
   refine zaD ?_
   exact zai v2 (.k .nil) ⟨(hS.keep [] rfl).up (by omega),hM⟩
theorem zoT:zfu Try.prog 125=some (zad zaG):=by kernel_rfl
theorem zoU (x:PointT_):Le (.agg (PointT_.cells x)) (.v (zad x)):=zww [x.Stand.Place,x.Stand.Credit,x.in_.c0,x.in_.c1,x.in_.c2,x.in_.c3,x.bought]
theorem zvv {κ ν:Type} (kv:κ->Value) (cv:ν->Value) (m:List (κ×ν)):(mpw kv cv m).length=m.length:=List.length_map _
theorem zvw {κ ν:Type} {kv:κ->Value} {cv:ν->Value} {m:List (κ×ν)} {e:Nat} {p:Value×Value} (h:(mpw kv cv m)[e]?=some p):∃x,m[e]?=some x/\p=(kv x.1,cv x.2):=by
 unfold mpw at h
 rw [List.getElem?_map] at h
 obtain ⟨x,hx,rfl⟩:=Option.map_eq_some_iff.1 h
 exact ⟨x,hx,rfl⟩
theorem zlx {M:List (PointT_×Step_)} {al:Bag_} (hM:zl4 M=true) {j:Nat}:zqF Try.prog 56 [.mp j,.agg (Bag_.cells al)] [(j,.obj none (zag (mpw zad zan M)))] (fun g v M'=>∃(l:List PointT_) (jn:Nat),l.Perm (M.map (·.1))/\g<=jn/\v=.mp jn/\M'=[(jn,.obj none (zag (mpw kvI zad (l.foldl (zbr al) [])))),(j,.obj none (zag (mpw zad zan M)))]):=by
 refine zl1 mixed Try.func56 rfl (by decide) Try.ntmps56 (by simp) (fun g=>⟨.mp (max g (j+1)),_,⟨M.map (·.1),max g (j+1),.refl _,by omega,rfl,rfl⟩,by simp [ids];omega,fun i hi=>by simp [ids] at hi ⊢;omega⟩) fun H0 g hf hp=>?_
 have hall:∀x,x∈M->okI x.1.bought=true:=fun x hx=>List.all_eq_true.1 (Bool.and_eq_true_iff.1 hM).1 x hx
 rw [zah]
 change wpA _ _ _ _ (Fr.of [(0,.mp j),(1,.agg (Bag_.cells al))]) H0 g
 have hS:=St.startH hf (by simp [ids]) hp
 have hjg:j<g:=(hS.has _ (List.mem_singleton.2 rfl)).2.1
 generalize hOe:(fun i=>i<g/\i∉ids [(j,.obj none (zag (mpw zad zan M)))])=O at hS
 refine Sq ?_
 refine Rg 2 ?_
 refine zcg (v:=.agg (Bag_.cells al)) (cs:=(Bag_.cells al)) hS (by decide) rfl rfl (by omega) fun H hS=>?_
 refine Oa (.v (.map none)) ?_
 refine Ni ?_
 refine Ws ?_
 refine Sq ?_
 refine Rg 2 ?_
 refine zl0 (kv:=kvI) (cv:=zad) hS (by decide) ziV (by omega) fun H hS=>?_
 refine Oa (.mp (g+2+0)) ?_
 refine Ni ?_
 refine Ws ?_
 refine Sq ?_
 refine Sq ?_
 refine Rg 2 ?_
 refine Om (.mp j) ?_
 refine zvb (m:=mpw zad zan M) 2 hS (by decide) rfl rfl zfX (by omega) fun a H hS=>?_
 refine Ni ?_
 refine Ws ?_
 refine zaB ?_
 refine zco (V:=List Nat) (fun v=>[(3,.ptr (g+0) 0),(5,.mp (g+2+0)),(11,.it (g+2+2+1) j a)]) (fun v k H' g'=>St O H0 [(g+2+2+1,.obj none (zlE a (mpw zad zan M).length v.toArray)),(g+2+0,.obj none (zag (mpw kvI zad ((v.map fun e=>(M.getD e (zaG,za9)).1).foldl (zbr al) [])))),(g+0,.cells (Bag_.cells al)),(j,.obj none (zag (mpw zad zan M)))] H' g'/\g+2+2+2<=g'/\SeenOk M.length v/\k=M.length-v.length) (n:=M.length) [] (.k (.k (.k .nil))) ⟨hS,Nat.le_refl _,SeenOk.nil _,rfl⟩ ?_
 rintro q k H g2 ⟨hS,hg2,hq,hk⟩
 change wpA _ _ _ _ (Fr.of [(3,.ptr (g+0) 0),(5,.mp (g+2+0)),(11,.it (g+2+2+1) j a)]) _ _
 generalize hE:((q.map fun e=>(M.getD e (zaG,za9)).1).foldl (zbr al) [])=E at hS
 have hEok:∀y,okI y=true->mok okI E y=true:=by
  rw [←hE]
  exact zt6 hall
 refine Sq ?_
 refine Rg 2 ?_
 refine zwr 0 3 hS (by decide) rfl rfl rfl ?_ ?_
 ·intro hall2
  rw [zvv] at hall2
  refine Ox (.b false) ?_
  refine Ni ?_
  refine Ws ?_
  refine Sq ?_
  refine zeV (e:=false) rfl rfl ?_
  refine zb1 ?_
  refine zav ?_
  refine zau ?_
  refine zaD ?_
  refine Ws ?_
  refine Sq ?_
  refine Rg 2 ?_
  refine Om (.mp (g+2+0)) ?_
  refine Oa (.mp (g+2+0)) ?_
  refine Ni ?_
  refine Ws ?_
  refine zaS ?_
  have hlp:(q.map fun e=>(M.getD e (zaG,za9)).1).Perm (M.map (·.1)):=by
   have h1:=(hq.perm hall2).map (fun e=>(M.getD e (zaG,za9)).1)
   have h2:(List.range M.length).map (fun e=>(M.getD e (zaG,za9)).1)=((List.range M.length).map fun e=>M.getD e (zaG,za9)).map (·.1):=by rw [List.map_map];rfl
   rw [h2,zmx] at h1
   exact h1
  have hS2:=hS.keep (L':=[(g+2+0,.obj none (zag (mpw kvI zad E))),(j,.obj none (zag (mpw zad zan M)))]) [false,true,false,true] rfl
  subst hE
  refine ⟨.inr rfl,.mp (g+2+0),_,_,⟨_,g+2+0,hlp,by omega,rfl,rfl⟩,⟨_,zaw (zae (x:=.mp (g+2+0)) rfl),.refl _⟩,fun H hH=>.mp _ none _ (hH _ (List.mem_cons_self ..)),?_,fun i hi=>(hS.old i (hOe▸hi)).2,fun p hp=>(hS2.has p hp).2.2,hS.fr,by omega,hS2.nd,fun i hi=>?_,fun p hp=>?_⟩
  ·intro p cs hp e
   simp only [List.mem_cons,List.not_mem_nil,or_false] at hp
   rcases hp with rfl | rfl<;>cases e
  ·simp only [ids,List.map_cons,List.map_nil,List.mem_cons,List.not_mem_nil,or_false] at hi ⊢
   omega
  ·obtain rfl:=List.mem_singleton.1 hp
   exact ⟨_,hS2.get (n:=1) rfl,rfl,fun hn=>absurd (by simp [ids]) hn⟩
 ·intro e p H hp hs hS
  obtain ⟨x,hx,rfl⟩:=zvw hp
  have hlt:=(List.getElem?_eq_some_iff.1 hx).1
  have hxb:=hall x (List.mem_of_getElem? hx)
  replace hS:St O H0 [(g+2+2+1,.obj none (zlE a (mpw zad zan M).length (q.toArray.push e))),(g+2+0,.obj none (zag (mpw kvI zad E))),(g+0,.cells (Bag_.cells al)),(j,.obj none (zag (mpw zad zan M)))] H g2:=hS
  refine Ox (.b true) ?_
  refine Ni ?_
  refine Ws ?_
  refine Sq ?_
  refine zhq (e:=true) rfl rfl ?_
  refine zay ?_
  refine Ws ?_
  refine zaB ?_
  refine Sq ?_
  refine Rg 4 ?_
  refine zvc (p:=(zad x.1,zan x.2)) 0 3 hS (by decide) rfl rfl rfl hp ?_
  refine zqL (v:=.v (zad x.1)) (v':=.agg (PointT_.cells x.1)) (by decide) rfl rfl (zoU x.1) ?_
  refine za4 hS (by decide) zew (by omega) fun H hS=>?_
  refine zaC (v:=.agg (PointT_.cells x.1)) (ns:=(PointT_.cells x.1)) (L':=[(g2+2+2,.cells (PointT_.cells x.1)),(g+2+2+1,.obj none (zlE a (mpw zad zan M).length (q.toArray.push e))),(g+2+0,.obj none (zag (mpw kvI zad E))),(g+0,.cells (Bag_.cells al)),(j,.obj none (zag (mpw zad zan M)))]) 0 hS rfl rfl .no rfl rfl ziW nlb rfl fun H hS=>?_
  refine Ni ?_
  refine Ws ?_
  refine Sq ?_
  refine Rg 10 ?_
  refine Om (.mp (g+2+0)) ?_
  refine zap (by decide) zhU rfl ?_
  refine zaK (v:=.i x.1.bought) 0 hS (by decide) rfl rfl .no (po zaf zal) ?_
  refine zkI (kv:=kvI) (ok:=okI) (cv:=zad) (z:=zaG) (M:=E) (k:=x.1.bought) (u:=(zgO zaG E x.1.bought)) (v':=.agg [.i (zgO zaG E x.1.bought).Stand.Place,.i (zgO zaG E x.1.bought).Stand.Credit,.i (zgO zaG E x.1.bought).in_.c0,.i (zgO zaG E x.1.bought).in_.c1,.i (zgO zaG E x.1.bought).in_.c2,.i (zgO zaG E x.1.bought).in_.c3,.i (zgO zaG E x.1.bought).bought]) 2 zvu hS (by decide) rfl rfl rfl ziV zoT (by unfold zgz;rw [if_pos (hEok _ hxb)]) (zoU _) ?_
  generalize hO2:(zgO zaG E x.1.bought)=o
  refine Om (.tup [.agg (PointT_.cells o),.b (zbt E x.1.bought)]) ?_
  refine Ox (.agg (PointT_.cells o)) ?_
  refine Ox (.b (zbt E x.1.bought)) ?_
  refine za4 hS (by decide) zew (by omega) fun H hS=>?_
  refine zaC (v:=.agg (PointT_.cells o)) (ns:=(PointT_.cells o)) (L':=[(g2+2+4+7,.cells (PointT_.cells o)),(g2+2+2,.cells (PointT_.cells x.1)),(g+2+2+1,.obj none (zlE a (mpw zad zan M).length (q.toArray.push e))),(g+2+0,.obj none (zag (mpw kvI zad E))),(g+0,.cells (Bag_.cells al)),(j,.obj none (zag (mpw zad zan M)))]) 0 hS rfl rfl .no rfl rfl ziW nlb rfl fun H hS=>?_
  refine Oa (.b (zbt E x.1.bought)) ?_
  refine Ni ?_
  refine Ws ?_
  refine zaY (J:=Bool) (fun b=>[(3,.ptr (g+0) 0),(5,.mp (g+2+0)),(6,.ptr (g2+2+2) 0),(11,.it (g+2+2+1) j a),(57,.b b)]) (fun b H' g'=>St O H0 [(g2+2+4+7,.cells (PointT_.cells o)),(g2+2+2,.cells (PointT_.cells x.1)),(g+2+2+1,.obj none (zlE a (mpw zad zan M).length (q.toArray.push e))),(g+2+0,.obj none (zag (mpw kvI zad E))),(g+0,.cells (Bag_.cells al)),(j,.obj none (zag (mpw zad zan M)))] H' g'/\g+2+2+2<=g'/\b=zkO al E x.1) ?_ ?_
  rotate_left
  ·have hD:∀b,b=(zlu x.1.in_ al&&(!zbt E x.1.bought || ze0 x.1 o))->b=zkO al E x.1:=fun b h=>by rw [h,←hO2];rfl
   refine Rg 35 ?_
   refine zap (by decide) ze1 rfl ?_
   refine zaK (v:=.agg (Bag_.cells x.1.in_)) 1 hS (by decide) rfl rfl .no (pg zdX) ?_
   refine zaK (v:=.agg (Bag_.cells al)) 4 hS (by decide) rfl rfl .no (pg zdX) ?_
   refine zyf (cs:=(Bag_.cells x.1.in_)) (ds:=(Bag_.cells al)) (e:=zlu x.1.in_ al) (by decide) rfl rfl zqO rfl ?_
   refine Om (.b (zlu x.1.in_ al)) ?_
   rcases bft (zlu x.1.in_ al) with h1 | h1
   rotate_left
   ·refine On (want:=true) h1 ?_
    refine On (want:=true) h1 ?_
    refine On (want:=true) h1 ?_
    refine zam (j:=7) (want:=false) (by decide) rfl ?_
    refine zam (j:=7) (want:=false) (by decide) rfl ?_
    refine zam (j:=7) (want:=false) (by decide) rfl ?_
    refine zam (j:=7) (want:=false) (by decide) rfl ?_
    refine zam (j:=7) (want:=false) (by decide) rfl ?_
    refine zam (j:=7) (want:=false) (by decide) rfl ?_
    refine zam (j:=7) (want:=false) (by decide) rfl ?_
    refine On (want:=true) h1 ?_
    refine On (want:=true) h1 ?_
    refine zam (j:=16) (want:=false) (by decide) rfl ?_
    refine zam (j:=16) (want:=false) (by decide) rfl ?_
    refine zam (j:=16) (want:=false) (by decide) rfl ?_
    refine zam (j:=16) (want:=false) (by decide) rfl ?_
    refine zam (j:=16) (want:=false) (by decide) rfl ?_
    refine zam (j:=16) (want:=false) (by decide) rfl ?_
    refine zam (j:=16) (want:=false) (by decide) rfl ?_
    refine zam (j:=16) (want:=false) (by decide) rfl ?_
    refine zam (j:=24) (want:=true) (by decide) rfl ?_
    refine zam (j:=24) (want:=true) (by decide) rfl ?_
    refine zam (j:=24) (want:=true) (by decide) rfl ?_
    refine zam (j:=24) (want:=true) (by decide) rfl ?_
    refine zam (j:=24) (want:=true) (by decide) rfl ?_
    refine zam (j:=24) (want:=true) (by decide) rfl ?_
    refine zam (j:=24) (want:=true) (by decide) rfl ?_
    refine zam (j:=16) (want:=false) (by decide) rfl ?_
    refine On (want:=true) h1 ?_
    refine Pf (.b false) h1 ?_
    refine Ni ?_
    exact zai false (.k (.k (.k (.k (.k .nil))))) ⟨hS.up (by omega),by omega,hD _ (by simp [ze0,h1])⟩
   refine Oy (want:=true) h1 ?_
   refine Om (.b (zbt E x.1.bought)) ?_
   refine Oy (want:=true) h1 ?_
   refine zc5 (by decide) rfl ?_
   refine Oy (want:=true) h1 ?_
   refine Om (.b (!zbt E x.1.bought)) ?_
   rcases bft (!zbt E x.1.bought) with h2 | h2
   ·refine On (want:=false) h2 ?_
    refine On (want:=false) h2 ?_
    refine On (want:=false) h2 ?_
    refine On (want:=false) h2 ?_
    refine On (want:=false) h2 ?_
    refine On (want:=false) h2 ?_
    refine On (want:=false) h2 ?_
    refine Oy (want:=true) h1 ?_
    refine Pt (.b true) h2 ?_
    refine Oy (want:=true) h1 ?_
    refine Om (.b true) ?_
    refine Og ?_
    refine Og ?_
    refine Og ?_
    refine Og ?_
    refine Og ?_
    refine Og ?_
    refine Og ?_
    refine Og ?_
    refine zam (j:=24) (want:=true) (by decide) rfl ?_
    refine zam (j:=24) (want:=true) (by decide) rfl ?_
    refine zam (j:=24) (want:=true) (by decide) rfl ?_
    refine zam (j:=24) (want:=true) (by decide) rfl ?_
    refine zam (j:=24) (want:=true) (by decide) rfl ?_
    refine zam (j:=24) (want:=true) (by decide) rfl ?_
    refine zam (j:=24) (want:=true) (by decide) rfl ?_
    refine Og ?_
    refine Oy (want:=true) h1 ?_
    refine zbN (v:=.b true) (e:=true) (by decide) rfl rfl rfl ?_
    refine Pt (.b true) h1 ?_
    refine Ni ?_
    exact zai true (.k (.k (.k (.k (.k .nil))))) ⟨hS.up (by omega),by omega,hD _ (by simp [ze0,h1,h2])⟩
   refine Oy (want:=false) h2 ?_
   refine zap (by decide) zcq rfl ?_
   refine Oy (want:=false) h2 ?_
   refine zap (by decide) zdb rfl ?_
   refine Oy (want:=false) h2 ?_
   refine zaK (v:=.i x.1.Stand.Place) 1 hS (by decide) rfl rfl .no (po zaf zal) ?_
   refine Oy (want:=false) h2 ?_
   refine zap (by decide) zcq rfl ?_
   refine Oy (want:=false) h2 ?_
   refine zap (by decide) zdb rfl ?_
   refine Oy (want:=false) h2 ?_
   refine zaK (v:=.i o.Stand.Place) 0 hS (by decide) rfl rfl .no (po zaf zal) ?_
   refine Oy (want:=false) h2 ?_
   refine Oi (.b (decide (x.1.Stand.Place<o.Stand.Place))) ?_
   refine Oy (want:=true) h1 ?_
   refine Pf (.b (decide (x.1.Stand.Place<o.Stand.Place))) h2 ?_
   refine Oy (want:=true) h1 ?_
   refine Om (.b (decide (x.1.Stand.Place<o.Stand.Place))) ?_
   rcases bft (decide (x.1.Stand.Place<o.Stand.Place)) with h3 | h3
   ·refine On (want:=false) h3 ?_
    refine On (want:=false) h3 ?_
    refine On (want:=false) h3 ?_
    refine On (want:=false) h3 ?_
    refine On (want:=false) h3 ?_
    refine On (want:=false) h3 ?_
    refine On (want:=false) h3 ?_
    refine On (want:=false) h3 ?_
    refine zam (j:=24) (want:=true) (by decide) rfl ?_
    refine zam (j:=24) (want:=true) (by decide) rfl ?_
    refine zam (j:=24) (want:=true) (by decide) rfl ?_
    refine zam (j:=24) (want:=true) (by decide) rfl ?_
    refine zam (j:=24) (want:=true) (by decide) rfl ?_
    refine zam (j:=24) (want:=true) (by decide) rfl ?_
    refine zam (j:=24) (want:=true) (by decide) rfl ?_
    refine On (want:=false) h3 ?_
    refine Oy (want:=true) h1 ?_
    refine Pt (.b true) h3 ?_
    refine Pt (.b true) h1 ?_
    refine Ni ?_
    exact zai true (.k (.k (.k (.k (.k .nil))))) ⟨hS.up (by omega),by omega,hD _ (by simp [ze0,h1,h2,of_decide_eq_true h3])⟩
   refine Oy (want:=false) h3 ?_
   refine zap (by decide) zcq rfl ?_
   refine Oy (want:=false) h3 ?_
   refine zap (by decide) zdb rfl ?_
   refine Oy (want:=false) h3 ?_
   refine zaK (v:=.i x.1.Stand.Place) 1 hS (by decide) rfl rfl .no (po zaf zal) ?_
   refine Oy (want:=false) h3 ?_
   refine zap (by decide) zcq rfl ?_
   refine Oy (want:=false) h3 ?_
   refine zap (by decide) zdb rfl ?_
   refine Oy (want:=false) h3 ?_
   refine zaK (v:=.i o.Stand.Place) 0 hS (by decide) rfl rfl .no (po zaf zal) ?_
   refine Oy (want:=false) h3 ?_
   refine Oi (.b (x.1.Stand.Place==o.Stand.Place)) ?_
   refine Oy (want:=false) h3 ?_
   refine Om (.b (x.1.Stand.Place==o.Stand.Place)) ?_
   rcases bft (x.1.Stand.Place==o.Stand.Place) with h4 | h4
   ·refine Oy (want:=true) h4 ?_
    refine zap (by decide) zcq rfl ?_
    refine Oy (want:=true) h4 ?_
    refine zap (by decide) zcp rfl ?_
    refine Oy (want:=true) h4 ?_
    refine zaK (v:=.i x.1.Stand.Credit) 1 hS (by decide) rfl rfl .no (po zaf zal) ?_
    refine Oy (want:=true) h4 ?_
    refine zap (by decide) zcq rfl ?_
    refine Oy (want:=true) h4 ?_
    refine zap (by decide) zcp rfl ?_
    refine Oy (want:=true) h4 ?_
    refine zaK (v:=.i o.Stand.Credit) 0 hS (by decide) rfl rfl .no (po zaf zal) ?_
    refine Oy (want:=true) h4 ?_
    refine Oi (.b (decide (x.1.Stand.Credit<o.Stand.Credit))) ?_
    refine Oy (want:=false) h3 ?_
    refine Pt (.b (decide (x.1.Stand.Credit<o.Stand.Credit))) h4 ?_
    refine Oy (want:=true) h1 ?_
    refine Pf (.b (decide (x.1.Stand.Credit<o.Stand.Credit))) h3 ?_
    refine Pt (.b (decide (x.1.Stand.Credit<o.Stand.Credit))) h1 ?_
    refine Ni ?_
    exact zai (decide (x.1.Stand.Credit<o.Stand.Credit)) (.k (.k (.k (.k (.k .nil))))) ⟨hS.up (by omega),by omega,hD _ (by unfold ze0;rw [h1,h2,h3,h4];simp)⟩
   refine On (want:=true) h4 ?_
   refine On (want:=true) h4 ?_
   refine On (want:=true) h4 ?_
   refine On (want:=true) h4 ?_
   refine On (want:=true) h4 ?_
   refine On (want:=true) h4 ?_
   refine On (want:=true) h4 ?_
   refine Oy (want:=false) h3 ?_
   refine Pf (.b false) h4 ?_
   refine Oy (want:=true) h1 ?_
   refine Pf (.b false) h3 ?_
   refine Pt (.b false) h1 ?_
   refine Ni ?_
   exact zai false (.k (.k (.k (.k (.k .nil))))) ⟨hS.up (by omega),by omega,hD _ (by unfold ze0;rw [h1,h2,h3,h4];simp)⟩
  rintro b H g3 ⟨hS,hg3,hb⟩
  change wpA _ _ _ _ (Fr.of [(3,.ptr (g+0) 0),(5,.mp (g+2+0)),(6,.ptr (g2+2+2) 0),(11,.it (g+2+2+1) j a),(57,.b b)]) _ _
  have hq':=hq.push hlt hs
  have hle:=hq'.le
  rw [List.length_append,List.length_singleton] at hle
  have hx2:(M.getD e (zaG,za9)).1=x.1:=by simp [List.getD_eq_getElem?_getD,hx]
  rcases bft b with hbb | hbb
  ·refine Ct hbb ?_
   refine Rg 5 ?_
   refine Om (.mp (g+2+0)) ?_
   refine zap (by decide) zhU rfl ?_
   refine zaK (v:=.i x.1.bought) 1 hS (by decide) rfl rfl .no (po zaf zal) ?_
   refine zaK (v:=.agg (PointT_.cells x.1)) 1 hS (by decide) rfl rfl .no (pg zfn) ?_
   refine zjG (kv:=kvI) (ok:=okI) (cv:=zad) (z0:=zaG) (M:=E) (k:=x.1.bought) (v:=x.1) (M':=zf8 E x.1.bought x.1) (L':=[(g2+2+4+7,.cells (PointT_.cells o)),(g2+2+2,.cells (PointT_.cells x.1)),(g+2+2+1,.obj none (zlE a (mpw zad zan M).length (q.toArray.push e))),(g+2+0,.obj none (zag (mpw kvI zad (zf8 E x.1.bought x.1)))),(g+0,.cells (Bag_.cells al)),(j,.obj none (zag (mpw zad zan M)))]) 3 zvu (.inl rfl) hS rfl rfl rfl rfl ziV zoT (by unfold zhp;rw [if_pos (hEok _ hxb)]) rfl fun H hS=>?_
   refine Ni ?_
   have hg4:g+2+2+2<=g3+5:=by omega
   have hEE:(((q++[e]).map fun e=>(M.getD e (zaG,za9)).1).foldl (zbr al) [])=zf8 E x.1.bought x.1:=by rw [List.map_append,List.foldl_append,hE];simp only [List.map_cons,List.map_nil,List.foldl_cons,List.foldl_nil,hx2,zbr];rw [←hb,hbb];simp
   refine zas ?_
   refine zbo (q++[e]) (m:=M.length-(q++[e]).length) (by rw [List.length_append,List.length_singleton];omega) (.k (.k (.k .nil))) ⟨?_,hg4,hq',rfl⟩
   rw [hEE]
   have hS:=hS.keep (L':=[(g+2+2+1,.obj none (zlE a (mpw zad zan M).length (q.toArray.push e))),(g+2+0,.obj none (zag (mpw kvI zad (zf8 E x.1.bought x.1)))),(g+0,.cells (Bag_.cells al)),(j,.obj none (zag (mpw zad zan M)))]) [false,false,true,true,true,true] rfl
   rw [List.push_toArray] at hS
   exact hS.up (by omega)
  ·refine Cf hbb ?_
   refine zay ?_
   have hg4:g+2+2+2<=g3:=by omega
   have hEE:(((q++[e]).map fun e=>(M.getD e (zaG,za9)).1).foldl (zbr al) [])=E:=by rw [List.map_append,List.foldl_append,hE];simp only [List.map_cons,List.map_nil,List.foldl_cons,List.foldl_nil,hx2,zbr];rw [←hb,hbb];simp
   refine zas ?_
   refine zbo (q++[e]) (m:=M.length-(q++[e]).length) (by rw [List.length_append,List.length_singleton];omega) (.k (.k (.k .nil))) ⟨?_,hg4,hq',rfl⟩
   rw [hEE]
   have hS:=hS.keep (L':=[(g+2+2+1,.obj none (zlE a (mpw zad zan M).length (q.toArray.push e))),(g+2+0,.obj none (zag (mpw kvI zad E))),(g+0,.cells (Bag_.cells al)),(j,.obj none (zag (mpw zad zan M)))]) [false,false,true,true,true,true] rfl
   rw [List.push_toArray] at hS
   exact hS.up (by omega)
abbrev zmU (al:Bag_) (x:PointT_) (a s xb nx j q:Nat) (pre:List AV) (S:ziO):BL:=[quB PointT_.cells q pre S.2,(a,.cells (Bag_.cells al)),(s,.cells [.mp j]),(xb,.cells (PointT_.cells x)),(nx,.cells [quV 7 q pre S.2]),(j,.obj none (zag (mpw zad zan S.1)))]
theorem zsB {al:Bag_} {x:PointT_} {a s xb nx j q:Nat} {pre:List AV} {S:ziO} (hpre:∀c,c∈pre->Go.AM.Pure c):InB In (zmU al x a s xb nx j q pre S):=fun p cs hp e c hc H hH=>by
 have hq:H q=some (.cells (pre++(S.2.map PointT_.cells).flatten)):=hH (quB PointT_.cells q pre S.2) (by simp)
 have hj:H j=some (.obj none (zag (mpw zad zan S.1))):=hH (j,_) (by simp)
 simp only [List.mem_cons,List.not_mem_nil,or_false] at hp
 rcases hp with rfl | rfl | rfl | rfl | rfl | rfl
 ·obtain rfl:pre++(S.2.map PointT_.cells).flatten=cs:=by injection e
  rcases List.mem_append.1 hc with hc | hc
  ·exact (hpre c hc).inH
  ·exact (zr9 (fun x=>(zab (.v _) (zab (.v _) (zab (.v _) (zab (.v _) (zab (.v _) (zab (.v _) (zab (.v _) zaJ)))))))) _ c hc).inH
 ·obtain rfl:(Bag_.cells al)=cs:=by injection e
  exact ((show ∀c,c∈(Bag_.cells al)->Go.AM.Pure c from zab (.v _) (zab (.v _) (zab (.v _) (zab (.v _) zaJ)))) c hc).inH
 ·obtain rfl:[AV.mp j]=cs:=by injection e
  obtain rfl:c=AV.mp j:=by simpa using hc
  exact .mp j none _ hj
 ·obtain rfl:(PointT_.cells x)=cs:=by injection e
  exact ((show ∀c,c∈(PointT_.cells x)->Go.AM.Pure c from zab (.v _) (zab (.v _) (zab (.v _) (zab (.v _) (zab (.v _) (zab (.v _) (zab (.v _) zaJ))))))) c hc).inH
 ·obtain rfl:[quV 7 q pre S.2]=cs:=by injection e
  obtain rfl:c=quV 7 q pre S.2:=by simpa using hc
  exact .ms _ _ _ _ _ (.inl ⟨_,hq⟩)
 ·cases e
theorem zk8:∀u:Step_,Le (.agg (u.cells)) (.v (zan u)):=fun u=>zww [u.act,u.from_.Stand.Place,u.from_.Stand.Credit,u.from_.in_.c0,u.from_.in_.c1,u.from_.in_.c2,u.from_.in_.c3,u.from_.bought]
theorem zhG:zfu Try.prog 127=some (zan za9):=by kernel_rfl
theorem zfp {n:Nat} {al:Bag_} {x:PointT_} {act:Int} {y:PointT_} {S S':ziO} (hM:zer n al x act y S=some S') {a s xb nx j q:Nat} {pre:List AV} (hpre:∀c,c∈pre->Go.AM.Pure c) (hnd:(ids (zmU al x a s xb nx j q pre S)).Nodup):zqF Try.prog 60 [.i act,.agg (PointT_.cells y),.ptr a 0,.ptr s 0,.ptr xb 0,.ptr nx 0] (zmU al x a s xb nx j q pre S) (fun g v M'=>∃q' pre',v=.tup []/\M'=zmU al x a s xb nx j q' pre' S'/\(q'=q\/g<=q')/\(pre'=pre\/pre'=[])):=by
 refine zl1 mixed Try.func60 rfl (by decide) Try.ntmps60 (by simp) (fun g=>⟨.tup [],zmU al x a s xb nx j q pre S',⟨q,pre,rfl,rfl,.inl rfl,.inl rfl⟩,hnd,fun i hi=>.inl hi⟩) fun H0 g hf hp=>?_
 rw [zah]
 change wpA _ _ _ _ (Fr.of [(0,.i act),(1,.agg (PointT_.cells y)),(2,.ptr a 0),(3,.ptr s 0),(4,.ptr xb 0),(5,.ptr nx 0)]) H0 g
 have hS:=St.startH hf hnd hp
 have hO:(fun i=>i<g/\i∉ids (zmU al x a s xb nx j q pre S))=(fun i=>i<g/\i∉ids (zmU al x a s xb nx j q pre S)):=rfl
 generalize hOe:(fun i=>i<g/\i∉ids (zmU al x a s xb nx j q pre S))=O at hS
 replace hS:St O H0 [quB PointT_.cells q pre S.2,(a,.cells (Bag_.cells al)),(s,.cells [.mp j]),(xb,.cells (PointT_.cells x)),(nx,.cells [quV 7 q pre S.2]),(j,.obj none (zag (mpw zad zan S.1)))] H0 g:=hS
 unfold zer at hM
 refine Sq ?_
 refine Rg 1 ?_
 refine zcg (v:=.agg (PointT_.cells y)) (cs:=(PointT_.cells y)) hS (by decide) rfl rfl (by omega) fun H hS=>?_
 refine Ni ?_
 refine Ws ?_
 refine Sq ?_
 have hS0:=hS
 refine zc4 (n:=13) rfl (by kernel_rfl) ?_
 refine zap (by decide) zcq rfl ?_
 refine zap (by decide) zcp rfl ?_
 refine zaK (v:=.i y.Stand.Credit) 0 hS (by decide) rfl rfl (.st hS0 0 rfl (by omega)) (po zaf zal) ?_
 refine zaK (v:=.agg (Bag_.cells al)) 2 hS (by decide) rfl rfl (.st hS0 2 rfl (by omega)) (pg zdX) ?_
 obtain ⟨r1,hr1,hM⟩:=zaj hM
 refine zaO (bs:=[.agg (Bag_.cells al)]) (by decide) rfl rfl ((zgl hr1).le (.k .nil)) ?_
 refine zap (by decide) ze1 rfl ?_
 refine zaK (v:=.agg (Bag_.cells y.in_)) 0 hS (by decide) rfl rfl (.st hS0 0 rfl (by omega)) (pg zdX) ?_
 obtain ⟨r2,hr2,hM⟩:=zaj hM
 refine zaO (bs:=[.agg (Bag_.cells y.in_)]) (by decide) rfl rfl ((zgl hr2).le (.k .nil)) ?_
 refine Oi (.i (w64 (r1-r2))) ?_
 refine zu0 (v:=.i (min y.Stand.Credit (w64 (r1-r2)))) (by decide) rfl ?_
 refine zap (by decide) zcq rfl ?_
 refine zap (by decide) zcp rfl ?_
 refine zaC (v:=.i (min y.Stand.Credit (w64 (r1-r2)))) (ns:=[.i (min y.Stand.Credit (w64 (r1-r2)))]) (L':=[(g+0,.cells [.i y.Stand.Place,.i (min y.Stand.Credit (w64 (r1-r2))),.i y.in_.c0,.i y.in_.c1,.i y.in_.c2,.i y.in_.c3,.i y.bought]),quB PointT_.cells q pre S.2,(a,.cells (Bag_.cells al)),(s,.cells [.mp j]),(xb,.cells (PointT_.cells x)),(nx,.cells [quV 7 q pre S.2]),(j,.obj none (zag (mpw zad zan S.1)))]) 0 hS rfl rfl (.st hS0 0 rfl (by omega)) rfl rfl zdV nlb rfl fun H hS=>?_
 refine Ni ?_
 refine Ws ?_
 refine Sq ?_
 refine Rg 9 ?_
 refine zaK (v:=.mp j) 3 hS (by decide) rfl rfl .no (po zkT zmO) ?_
 refine zaK (v:=.agg [.i y.Stand.Place,.i (min y.Stand.Credit (w64 (r1-r2))),.i y.in_.c0,.i y.in_.c1,.i y.in_.c2,.i y.in_.c3,.i y.bought]) 0 hS (by decide) rfl rfl .no (pg zfn) ?_
 obtain ⟨u,hu,hM⟩:=zaj hM
 refine zkI (kv:=zad) (ok:=zbF) (cv:=zan) (z:=za9) (M:=S.1) (k:=(zeb y (w64 (r1-r2)))) (u:=u) (v':=.agg (Step_.cells u)) 6 zk5 hS (by decide) rfl rfl rfl zfX zhG hu (zk8 u) ?_
 refine Om (.tup [.agg (Step_.cells u),.b (zbt S.1 (zeb y (w64 (r1-r2))))]) ?_
 refine Ox (.agg (Step_.cells u)) ?_
 refine Ox (.b (zbt S.1 (zeb y (w64 (r1-r2))))) ?_
 refine za4 hS (by decide) zgG (by omega) fun H hS=>?_
 refine zaC (v:=.agg (Step_.cells u)) (ns:=(Step_.cells u)) (L':=[(g+1+13+6,.cells (Step_.cells u)),(g+0,.cells [.i y.Stand.Place,.i (min y.Stand.Credit (w64 (r1-r2))),.i y.in_.c0,.i y.in_.c1,.i y.in_.c2,.i y.in_.c3,.i y.bought]),quB PointT_.cells q pre S.2,(a,.cells (Bag_.cells al)),(s,.cells [.mp j]),(xb,.cells (PointT_.cells x)),(nx,.cells [quV 7 q pre S.2]),(j,.obj none (zag (mpw zad zan S.1)))]) 0 hS rfl rfl .no rfl rfl ziX nlb rfl fun H hS=>?_
 refine Oa (.b (zbt S.1 (zeb y (w64 (r1-r2))))) ?_
 refine Ni ?_
 replace hS:=hS.keep (L':=[(g+0,.cells [.i y.Stand.Place,.i (min y.Stand.Credit (w64 (r1-r2))),.i y.in_.c0,.i y.in_.c1,.i y.in_.c2,.i y.in_.c3,.i y.bought]),quB PointT_.cells q pre S.2,(a,.cells (Bag_.cells al)),(s,.cells [.mp j]),(xb,.cells (PointT_.cells x)),(nx,.cells [quV 7 q pre S.2]),(j,.obj none (zag (mpw zad zan S.1)))]) [false,true,true,true,true,true,true,true] rfl
 refine Ws ?_
 refine Sq ?_
 refine Rg 2 ?_
 refine Om (.b (zbt S.1 (zeb y (w64 (r1-r2))))) ?_
 refine zc5 (by decide) rfl ?_
 refine Ni ?_
 refine Ws ?_
 rcases bft (zbt S.1 (zeb y (w64 (r1-r2)))) with hb | hb
 ·replace hM:=ifT hM hb
  refine zeV (e:=!zbt S.1 (zeb y (w64 (r1-r2)))) rfl (by rw [hb];rfl) ?_
  refine zay ?_
  obtain rfl:=Option.some.inj hM
  refine ⟨.inl rfl,.tup [],zmU al x a s xb nx j q pre S,g+1+13+9+2,⟨q,pre,rfl,rfl,.inl rfl,.inl rfl⟩,⟨_,rfl,.refl _⟩,fun H _=>(show Go.AM.Pure _ from .tup _ zaJ).inH,zsB hpre,fun i hi=>(hS.old i (hOe▸hi)).2,fun p hp=>((hS.keep (L':=zmU al x a s xb nx j q pre S) [false,true,true,true,true,true,true] rfl).has p hp).2.2,fun i hi=>hS.fr i (by omega),by omega,hnd,fun i hi=>.inl hi,fun p hp=>⟨p.2,((hS.keep (L':=zmU al x a s xb nx j q pre S) [false,true,true,true,true,true,true] rfl).has p hp).2.2,?_,fun hn=>absurd (List.mem_map.2 ⟨p,hp,rfl⟩) hn⟩⟩
  simp only [List.mem_cons,List.not_mem_nil,or_false] at hp
  rcases hp with rfl | rfl | rfl | rfl | rfl | rfl<;>first | trivial | rfl
 ·replace hM:=ifF hM hb
  refine zhq (e:=!zbt S.1 (zeb y (w64 (r1-r2)))) rfl (by rw [hb];rfl) ?_
  refine Sq ?_
  refine Rg 6 ?_
  refine zaK (v:=.mp j) 3 hS (by decide) rfl rfl .no (po zkT zmO) ?_
  refine zaK (v:=.agg [.i y.Stand.Place,.i (min y.Stand.Credit (w64 (r1-r2))),.i y.in_.c0,.i y.in_.c1,.i y.in_.c2,.i y.in_.c3,.i y.bought]) 0 hS (by decide) rfl rfl .no (pg zfn) ?_
  refine Om (.i act) ?_
  refine zaK (v:=.agg (PointT_.cells x)) 4 hS (by decide) rfl rfl .no (pg zfn) ?_
  refine zbf (cs:=[.i act,.i x.Stand.Place,.i x.Stand.Credit,.i x.in_.c0,.i x.in_.c1,.i x.in_.c2,.i x.in_.c3,.i x.bought]) (by decide) zgG zpF rfl ?_
  obtain ⟨m,hm,hM⟩:=zaj hM
  refine zjG (kv:=zad) (ok:=zbF) (cv:=zan) (z0:=za9) (M:=S.1) (k:=(zeb y (w64 (r1-r2)))) (v:=⟨act,x⟩) (M':=m) (L':=[(g+0,.cells [.i y.Stand.Place,.i (min y.Stand.Credit (w64 (r1-r2))),.i y.in_.c0,.i y.in_.c1,.i y.in_.c2,.i y.in_.c3,.i y.bought]),quB PointT_.cells q pre S.2,(a,.cells (Bag_.cells al)),(s,.cells [.mp j]),(xb,.cells (PointT_.cells x)),(nx,.cells [quV 7 q pre S.2]),(j,.obj none (zag (mpw zad zan m)))]) 6 zk5 (.inl rfl) hS rfl rfl rfl rfl zfX zhG hm rfl fun H hS=>?_
  refine Ni ?_
  refine Ws ?_
  have hle:S.2.length+1<=1048576:=by
    by_cases h:S.2.length+1<=1048576
    ·exact h
    ·rw [if_neg h] at hM;cases hM
  rw [if_pos hle] at hM
  obtain rfl:=Option.some.inj hM
  refine Rg 5 ?_
  refine zaK (v:=quV 7 q pre S.2) 5 hS (by decide) rfl rfl .no (po ziY zkd) ?_
  refine zaK (v:=.agg [.i y.Stand.Place,.i (min y.Stand.Credit (w64 (r1-r2))),.i y.in_.c0,.i y.in_.c1,.i y.in_.c2,.i y.in_.c3,.i y.bought]) 0 hS (by decide) rfl rfl .no (pg zfn) ?_
  refine znv (e:=125) (es:=[[.i y.Stand.Place,.i (min y.Stand.Credit (w64 (r1-r2))),.i y.in_.c0,.i y.in_.c1,.i y.in_.c2,.i y.in_.c3,.i y.bought]]) (by decide) ziZ zpG rfl zmP rfl (by decide) ?_
  replace hS:=hS.toHead (L':=[quB PointT_.cells q pre S.2,(g+0,.cells [.i y.Stand.Place,.i (min y.Stand.Credit (w64 (r1-r2))),.i y.in_.c0,.i y.in_.c1,.i y.in_.c2,.i y.in_.c3,.i y.bought]),(a,.cells (Bag_.cells al)),(s,.cells [.mp j]),(xb,.cells (PointT_.cells x)),(nx,.cells [quV 7 q pre S.2]),(j,.obj none (zag (mpw zad zan m)))]) 1 nlb rfl
  refine zqK (f:=PointT_.cells) (k:=7) (ys:=[(zeb y (w64 (r1-r2)))]) hS (by decide) rfl (fun _=>rfl) rfl ziZ zmP (Nat.succ_pos 0) hle (by omega) fun H pre' hpr hS=>?_
  refine zaC (v:=quV 7 (g+1+13+9+2+6+3) pre' (S.2++[(zeb y (w64 (r1-r2)))])) (ns:=[quV 7 (g+1+13+9+2+6+3) pre' (S.2++[(zeb y (w64 (r1-r2)))])]) (L':=[quB PointT_.cells (g+1+13+9+2+6+3) pre' (S.2++[(zeb y (w64 (r1-r2)))]),(q,.ice),(g+0,.cells [.i y.Stand.Place,.i (min y.Stand.Credit (w64 (r1-r2))),.i y.in_.c0,.i y.in_.c1,.i y.in_.c2,.i y.in_.c3,.i y.bought]),(a,.cells (Bag_.cells al)),(s,.cells [.mp j]),(xb,.cells (PointT_.cells x)),(nx,.cells [quV 7 (g+1+13+9+2+6+3) pre' (S.2++[(zeb y (w64 (r1-r2)))])]),(j,.obj none (zag (mpw zad zan m)))]) 6 hS rfl rfl .no rfl rfl zkU nlb rfl fun H hS=>?_
  refine Ni ?_
  have hS2:=hS.keep (L':=zmU al x a s xb nx j (g+1+13+9+2+6+3) pre' (m,S.2++[(zeb y (w64 (r1-r2)))])) [true,false,false,true,true,true,true,true] rfl
  have hpre2:∀c,c∈pre'->Go.AM.Pure c:=by rcases hpr with rfl | rfl;exact hpre;exact fun c hc=>by simp at hc
  refine ⟨.inl rfl,.tup [],zmU al x a s xb nx j (g+1+13+9+2+6+3) pre' (m,S.2++[(zeb y (w64 (r1-r2)))]),_,⟨(g+1+13+9+2+6+3),pre',rfl,rfl,.inr (by omega),hpr⟩,⟨_,rfl,.refl _⟩,fun H _=>(show Go.AM.Pure _ from .tup _ zaJ).inH,zsB hpre2,fun i hi=>(hS.old i (hOe▸hi)).2,fun p hp=>(hS2.has p hp).2.2,hS.fr,by omega,hS2.nd,fun i hi=>?_,fun p hp=>?_⟩
  ·simp only [ids,List.map_cons,List.map_nil,List.mem_cons,List.not_mem_nil,or_false,quB] at hi ⊢
   omega
  ·simp only [List.mem_cons,List.not_mem_nil,or_false] at hp
   rcases hp with rfl | rfl | rfl | rfl | rfl | rfl
   ·exact ⟨.ice,hS.get (n:=1) rfl,trivial,fun _=>rfl⟩
   ·exact ⟨_,hS.get (n:=3) rfl,trivial,fun hn=>absurd (by simp [ids,quB]) hn⟩
   ·exact ⟨_,hS.get (n:=4) rfl,trivial,fun hn=>absurd (by simp [ids,quB]) hn⟩
   ·exact ⟨_,hS.get (n:=5) rfl,trivial,fun hn=>absurd (by simp [ids,quB]) hn⟩
   ·exact ⟨_,hS.get (n:=6) rfl,trivial,fun hn=>absurd (by simp [ids,quB]) hn⟩
   ·exact ⟨_,hS.get (n:=7) rfl,rfl,fun hn=>absurd (by simp [ids,quB]) hn⟩
theorem zhH {a0:Wheel_} {a1:Int} {r:Bool} (hM:zdl a0 a1=some r):zaR Try.prog 67 [.agg (Wheel.cells a0.Wheel),.i a1] (.b r):=by
 refine zaz mixed Try.func67 rfl (by decide) Try.ntmps67 (by simp) ?pure fun H0 g hf=>?_
 case pure=>exact .v _
 rw [zah]
 change wpA _ _ _ _ (Fr.of [(0,.agg (Wheel.cells a0.Wheel)),(1,.i a1)]) H0 g
 have hS:=St.start hf
 refine Sq ?_
 refine Rg 2 ?_
 refine zcg (v:=.agg (Wheel.cells a0.Wheel)) (cs:=(Wheel.cells a0.Wheel)) hS (by decide) rfl rfl (by omega) fun H hS=>?_
 refine Oa (.b false) ?_
 refine Ni ?_
 refine zaW (L':=[]) 0 2 hS rfl rfl rfl fun H hS=>?_
 refine Ws ?_
 refine Sq ?_
 refine Rg 7 ?_
 refine Om (.i a1) ?_
 refine Of ((Wheel.cells a0.Wheel)) zda ?_
 refine Of ((Wheel.cells a0.Wheel)) zef ?_
 refine Olp (.i a0.Wheel.Round) zaf zal ?_
 refine Oi (.i (w64 (a0.Wheel.Round-1))) ?_
 obtain ⟨r1,hr1,hM⟩:=zaj hM
 refine zaO (bs:=[.i a1,.i 0,.i (w64 (a0.Wheel.Round-1))]) (by decide) rfl rfl ((zdA hr1).le (.k (.k (.k .nil)))) ?_
 refine Oa (.b r1) ?_
 refine Ni ?_
 refine Ws ?_
 refine zaS ?_
 refine zbe (x:=.b r1) (f:=fun r=>.b r) (.inr rfl) ?_ (.refl _) (Option.some.inj hM) hS
 exact (zaw (zae (x:=.b r1) rfl))
theorem zi6 {S:Type} {Lo:S->BL} (hk:∀s s',zg7 (Lo s) (Lo s')) (hnd:∀s,(ids (Lo s)).Nodup) (hin:∀s,InB In (Lo s)) {aF:Int->S->Option (Bool×S)} {f0:AV} (hF:∀s H,Has H (Lo s)->In H f0) (h0:cellsOf f0=some [f0]) (hf:∀{x0:Int} {s:S} {r:Bool×S},aF x0 s=some r->zlo Try.prog f0 [.i x0] (Lo s) (.b r.1) (Lo r.2)) {a0:Int} {st:S} {r:Bool×S} (hM:zcs aF a0 st=some r):zhc Try.prog 74 [.i a0,.ep [f0]] (Lo st) (.b r.1) (Lo r.2):=by
 have hnd0:∀s,(ids (Lo s)).Nodup:=fun s=>hnd s
 refine zbE mixed Try.func74 rfl (by decide) Try.ntmps74 (by simp) (hk _ _) (hnd st) ?pure ?cells fun H0 g hf_ hp=>?_
 case pure=>exact fun H _=>(show Go.AM.Pure _ from .v _).inH
 case cells=>exact hin _
 rw [zah]
 change wpA _ _ _ _ (Fr.of [(0,.i a0),(1,.ep [f0])]) H0 g
 have hS:=St.startH (L:=([]++Lo st)) hf_ (hnd st) hp
 replace hS:St (fun i=>i<g/\i∉ids (Lo st)) H0 ([]++Lo st) H0 g:=hS
 refine Sq ?_
 refine Rg 1 ?_
 refine Oa (.b false) ?_
 refine Ni ?_
 refine Ws ?_
 refine Sq ?_
 refine Rg 5 ?_
 refine Olp (f0) zpD zsj ?_
 refine Om (.i a0) ?_
 obtain ⟨r1,hr1,hM⟩:=zaj hM
 replace hS:St (fun i=>i<g/\i∉ids (Lo st)) H0 ([]++Lo st) _ _:=hS
 refine zgW (bs:=[.i a0]) (.inl rfl) hS (by decide) rfl rfl ((hf hr1).le (.k .nil)) (hk _ _).ids (by omega) fun H hS=>?_
 refine zc5 (e:=r1.1) (by decide) rfl ?_
 refine Oa (.b (!r1.1)) ?_
 refine Ni ?_
 refine Ws ?_
 refine zaS ?_
 refine zdf (x:=.b (!r1.1)) (f:=fun r=>.b r.1) (fd:=fun r=>(Lo r.2)) (.inr rfl) ?_ (.refl _) (Option.some.inj hM) hS 0 rfl
 exact (zaw (zae (x:=.b (!r1.1)) rfl))
theorem zk9 {S:Type} {Lo:S->BL} (hk:∀s s',zg7 (Lo s) (Lo s')) (hnd:∀s,(ids (Lo s)).Nodup) (hin:∀s,InB In (Lo s)) {aF:Int->S->Option (Bool×S)} {f0:AV} (hF:∀s H,Has H (Lo s)->In H f0) (h0:cellsOf f0=some [f0]) (hf:∀{x0:Int} {s:S} {r:Bool×S},aF x0 s=some r->zlo Try.prog f0 [.i x0] (Lo s) (.b r.1) (Lo r.2)) {n:Nat} {a0:List Int} {st:S} {r:Bool×S} (hM:zfG n aF a0 st=some r):zhc Try.prog 68 [.sl .no 1 (a0.map cI),f0] (Lo st) (.b r.1) (Lo r.2):=by
 have hnd0:∀s,(ids (Lo s)).Nodup:=fun s=>hnd s
 refine zbE mixed Try.func68 rfl (by decide) Try.ntmps68 (by simp) (hk _ _) (hnd st) ?pure ?cells fun H0 g hf_ hp=>?_
 case pure=>exact fun H _=>(show Go.AM.Pure _ from .v _).inH
 case cells=>exact hin _
 rw [zah]
 change wpA _ _ _ _ (Fr.of [(0,.sl .no 1 (a0.map cI)),(1,f0)]) H0 g
 have hS:=St.startH (L:=([]++Lo st)) hf_ (hnd st) hp
 replace hS:St (fun i=>i<g/\i∉ids (Lo st)) H0 ([]++Lo st) H0 g:=hS
 refine Sq ?_
 refine Rg 2 ?_
 refine zcg (v:=f0) (cs:=[f0]) hS (by decide) rfl h0 (by omega) fun H hS=>?_
 refine Oa (.b false) ?_
 refine Ni ?_
 refine zaW (L':=([]++Lo st)) 0 3 hS rfl rfl rfl fun H hS=>?_
 refine Ws ?_
 refine zaY (J:=Bool×S) (fun j=>[(4,.b j.1)]) (fun j H' g'=>St (fun i=>i<g/\i∉ids (Lo st)) H0 ([]++Lo j.2) H' g'/\zdw j.1 j.2=some r) ?_ ?_
 ·rintro ⟨v1,v2⟩ H g1 ⟨hS,hM⟩
  change wpA _ _ _ _ (Fr.of [(4,.b v1)]) _ _
  replace hS:St (fun i=>i<g/\i∉ids (Lo st)) H0 ([]++Lo v2) H g1:=hS
  replace hM:zdw v1 v2=some r:=hM
  refine zaS ?_
  refine zdf (x:=.b v1) (f:=fun r=>.b r.1) (fd:=fun r=>(Lo r.2)) (.inr rfl) ?_ (.refl _) (Option.some.inj hM) hS 0 rfl
  exact (zaw (zae (x:=.b v1) rfl))
 ·refine Rg 10 ?_
  refine Om (.sl .no 1 (a0.map cI)) ?_
  refine zb9 (n:=a0.length) (by decide) rfl (List.length_map _) zaQ ?_
  refine Oi (.b (decide ((a0.length:Int)<=20))) ?_
  refine Om (.b (decide ((a0.length:Int)<=20))) ?_
  rcases bft (decide ((a0.length:Int)<=20)) with hb3 | hb3
  ·replace hM:=ifT hM hb3
   refine Oy (want:=true) hb3 ?_
   refine Om (.sl .no 1 (a0.map cI)) ?_
   refine Oy (want:=true) hb3 ?_
   refine zcL (first:=[]) (cap:=[.ep [f0]]) (by decide) rfl rfl ?_
   refine Oy (want:=true) hb3 ?_
   obtain ⟨r4,hr4,hM⟩:=zaj hM
   replace hS:St (fun i=>i<g/\i∉ids (Lo st)) H0 ([]++Lo st) _ _:=hS
   refine ziE (bs:=[.sl .no 1 (a0.map cI),.fn (.func 74) [] [.ep [f0]]]) (.inl rfl) hS (by decide) rfl rfl ((zc0 (Lo:=Lo)  hk hnd0 hin (aF:=(zcs aF)) (fun s H hH=>(.fn _ _ _ zb2 (za0 (.ep _ (za0 (hF _ H hH) zb2)) zb2))) rfl (fun h=>zif (zi6 (Lo:=Lo)  hk hnd0 hin hF h0 hf h)) hr4).le (.k (.k .nil))) (hk _ _).ids (by omega) fun H hS=>?_
   refine Oy (want:=true) hb3 ?_
   refine zc5 (e:=r4.1) (by decide) rfl ?_
   refine Pt (.b (!r4.1)) hb3 ?_
   refine Oa (.b (!r4.1)) ?_
   refine Ni ?_
   exact zai ((!r4.1),r4.2) (.k .nil) ⟨(hS.keep [] rfl).up (by omega),hM⟩
  ·replace hM:=ifF hM hb3
   refine On (want:=true) hb3 ?_
   refine On (want:=true) hb3 ?_
   refine On (want:=true) hb3 ?_
   refine On (want:=true) hb3 ?_
   refine Pf (.b false) hb3 ?_
   refine Oa (.b false) ?_
   refine Ni ?_
   exact zai (false,st) (.k .nil) ⟨(hS.keep [] rfl).up (by omega),hM⟩
theorem zhW {a0:Wheel_} {a1:Int} {r:Bool} (hM:zdI a0 a1=some r):zaR Try.prog 75 [.agg (Wheel.cells a0.Wheel),.i a1] (.b r):=by
 refine zaz mixed Try.func75 rfl (by decide) Try.ntmps75 (by simp) ?pure fun H0 g hf=>?_
 case pure=>exact .v _
 rw [zah]
 change wpA _ _ _ _ (Fr.of [(0,.agg (Wheel.cells a0.Wheel)),(1,.i a1)]) H0 g
 have hS:=St.start hf
 refine Sq ?_
 refine Rg 2 ?_
 refine zcg (v:=.agg (Wheel.cells a0.Wheel)) (cs:=(Wheel.cells a0.Wheel)) hS (by decide) rfl rfl (by omega) fun H hS=>?_
 refine Oa (.b false) ?_
 refine Ni ?_
 refine zaW (L':=[]) 0 2 hS rfl rfl rfl fun H hS=>?_
 refine Ws ?_
 refine Sq ?_
 refine Rg 8 ?_
 refine Om (.i a1) ?_
 refine Of ((Wheel.cells a0.Wheel)) zda ?_
 refine Of ((Wheel.cells a0.Wheel)) zcE ?_
 refine Olp (.sl .no 1 (a0.Wheel.Coins.map cI)) zaI zaU ?_
 refine zb9 (n:=a0.Wheel.Coins.length) (by decide) rfl (List.length_map _) zaQ ?_
 refine Oi (.i (w64 ((a0.Wheel.Coins.length:Int)-1))) ?_
 obtain ⟨r1,hr1,hM⟩:=zaj hM
 refine zaO (bs:=[.i a1,.i 0,.i (w64 ((a0.Wheel.Coins.length:Int)-1))]) (by decide) rfl rfl ((zdA hr1).le (.k (.k (.k .nil)))) ?_
 refine Oa (.b r1) ?_
 refine Ni ?_
 refine zg8 [(4,.b r1)] (.k .nil) ?_
 refine zaS ?_
 refine zbe (x:=.b r1) (f:=fun r=>.b r) (.inr rfl) ?_ (.refl _) (Option.some.inj hM) hS
 exact (zaw (zae (x:=.b r1) rfl))
theorem zij {a0:Wheel_} {a1:Int} {r:Bool} (hM:zcA a0 a1=some r):zaR Try.prog 69 [.agg (Wheel.cells a0.Wheel),.i a1] (.b r):=by
 refine zaz mixed Try.func69 rfl (by decide) Try.ntmps69 (by simp) ?pure fun H0 g hf=>?_
 case pure=>exact .v _
 rw [zah]
 change wpA _ _ _ _ (Fr.of [(0,.agg (Wheel.cells a0.Wheel)),(1,.i a1)]) H0 g
 have hS:=St.start hf
 refine Sq ?_
 refine Rg 2 ?_
 refine zcg (v:=.agg (Wheel.cells a0.Wheel)) (cs:=(Wheel.cells a0.Wheel)) hS (by decide) rfl rfl (by omega) fun H hS=>?_
 refine Oa (.b false) ?_
 refine Ni ?_
 refine zaW (L':=[]) 0 2 hS rfl rfl rfl fun H hS=>?_
 refine Ws ?_
 refine zaY (J:=Bool) (fun j=>[(4,.b j)]) (fun j H' g'=>St (·<g) H0 [] H' g'/\zcv j=some r) ?_ ?_
 ·rintro v1 H g1 ⟨hS,hM⟩
  change wpA _ _ _ _ (Fr.of [(4,.b v1)]) _ _
  replace hS:St (·<g) H0 [] H g1:=hS
  replace hM:zcv v1=some r:=hM
  refine zaS ?_
  refine zbe (x:=.b v1) (f:=fun r=>.b r) (.inr rfl) ?_ (.refl _) (Option.some.inj hM) hS
  exact (zaw (zae (x:=.b v1) rfl))
 ·refine Rg 8 ?_
  refine Om (.i a1) ?_
  refine Oi (.b (a1==(-1))) ?_
  refine Om (.b (a1==(-1))) ?_
  rcases bft (a1==(-1)) with hb2 | hb2
  ·replace hM:=ifT hM hb2
   refine On (want:=false) hb2 ?_
   refine On (want:=false) hb2 ?_
   refine On (want:=false) hb2 ?_
   refine Pt (.b true) hb2 ?_
   refine Oa (.b true) ?_
   refine Ni ?_
   exact zai true (.k .nil) ⟨(hS.keep [] rfl).up (by omega),hM⟩
  ·replace hM:=ifF hM hb2
   refine Oy (want:=false) hb2 ?_
   refine Olg (.agg (Wheel.cells a0.Wheel)) zd7 ?_
   refine Oy (want:=false) hb2 ?_
   refine Om (.i a1) ?_
   refine Oy (want:=false) hb2 ?_
   obtain ⟨r3,hr3,hM⟩:=zaj hM
   refine zaO (bs:=[.agg (Wheel.cells a0.Wheel),.i a1]) (by decide) rfl rfl ((zhW hr3).le (.k (.k .nil))) ?_
   refine Pf (.b r3) hb2 ?_
   refine Oa (.b r3) ?_
   refine Ni ?_
   exact zai r3 (.k .nil) ⟨(hS.keep [] rfl).up (by omega),hM⟩
theorem zly {p1:Nat} (hnd:[p1].Nodup) {n:Nat} {a0:Wheel_} {a1:Stand} {a2:List Int} {r:Bool} (hM:zfi n a0 a1 a2=some r):zhc Try.prog 66 [.agg (Wheel.cells a0.Wheel),.ptr p1 0,.ep [.sl .no 1 (a2.map cI)]] [(p1,.cells (Stand.cells a1))] (.b r) [(p1,.cells (Stand.cells a1))]:=by
 refine zbE mixed Try.func66 rfl (by decide) Try.ntmps66 (by simp) (zd1 zfS) hnd ?pure ?cells fun H0 g hf_ hp=>?_
 case pure=>exact fun H _=>(show Go.AM.Pure _ from .v _).inH
 case cells=>exact (ziC (zeA (zbK (.inl (.inl (.v _))) (zbK (.inl (.inl (.v _))) zhs)) ziB) zeW)
 rw [zah]
 change wpA _ _ _ _ (Fr.of [(0,.agg (Wheel.cells a0.Wheel)),(1,.ptr p1 0),(2,.ep [.sl .no 1 (a2.map cI)])]) H0 g
 have hS:=St.startH (L:=[(p1,.cells (Stand.cells a1))]) hf_ hnd hp
 replace hS:St (fun i=>i<g/\i∉ids [(p1,.cells (Stand.cells a1))]) H0 [(p1,.cells (Stand.cells a1))] H0 g:=hS
 refine Sq ?_
 refine Rg 2 ?_
 refine zcg (v:=.agg (Wheel.cells a0.Wheel)) (cs:=(Wheel.cells a0.Wheel)) hS (by decide) rfl rfl (by omega) fun H hS=>?_
 refine Oa (.b false) ?_
 refine Ni ?_
 refine zaW (L':=[(p1,.cells (Stand.cells a1))]) 0 3 hS rfl rfl rfl fun H hS=>?_
 refine Ws ?_
 refine zaY (J:=Bool) (fun j=>[(4,.b j)]) (fun j H' g'=>St (fun i=>i<g/\i∉ids [(p1,.cells (Stand.cells a1))]) H0 [(p1,.cells (Stand.cells a1))] H' g'/\zc7 j=some r) ?_ ?_
 ·rintro v1 H g1 ⟨hS,hM⟩
  change wpA _ _ _ _ (Fr.of [(4,.b v1)]) _ _
  replace hS:St (fun i=>i<g/\i∉ids [(p1,.cells (Stand.cells a1))]) H0 [(p1,.cells (Stand.cells a1))] H g1:=hS
  replace hM:zc7 v1=some r:=hM
  refine zaS ?_
  refine zdf (x:=.b v1) (f:=fun r=>.b r) (fd:=fun r=>[(p1,.cells (Stand.cells a1))]) (.inr rfl) ?_ (.refl _) (Option.some.inj hM) hS 0 rfl
  exact (zaw (zae (x:=.b v1) rfl))
 ·refine Rg 16 ?_
  refine Olg (.agg (Wheel.cells a0.Wheel)) zd7 ?_
  refine zap (by decide) zdb rfl ?_
  refine zaK (v:=.i a1.Place) 0 hS (by decide) rfl rfl .no (po zaf zal) ?_
  obtain ⟨r2,hr2,hM⟩:=zaj hM
  refine zaO (bs:=[.agg (Wheel.cells a0.Wheel),.i a1.Place]) (by decide) rfl rfl ((zhH hr2).le (.k (.k .nil))) ?_
  refine Om (.b r2) ?_
  rcases bft r2 with hb3 | hb3
  ·replace hM:=ifT hM hb3
   refine Oy (want:=true) hb3 ?_
   refine zap (by decide) zcp rfl ?_
   refine Oy (want:=true) hb3 ?_
   refine zaK (v:=.i a1.Credit) 0 hS (by decide) rfl rfl .no (po zaf zal) ?_
   refine Oy (want:=true) hb3 ?_
   obtain ⟨r4,hr4,hM⟩:=zaj hM
   refine zaO (bs:=[.i a1.Credit,.i 0,.i 20]) (by decide) rfl rfl ((zdA hr4).le (.k (.k (.k .nil)))) ?_
   refine Pt (.b r4) hb3 ?_
   refine Om (.b r4) ?_
   rcases bft r4 with hb5 | hb5
   ·replace hM:=ifT hM hb5
    refine Oy (want:=true) hb5 ?_
    refine Olp (.sl .no 1 (a2.map cI)) zaI zaU ?_
    refine Oy (want:=true) hb5 ?_
    refine Olg (.agg (Wheel.cells a0.Wheel)) zd7 ?_
    refine Oy (want:=true) hb5 ?_
    refine zcL (first:=[.agg (Wheel.cells a0.Wheel)]) (cap:=[]) (by decide) rfl rfl ?_
    refine Oy (want:=true) hb5 ?_
    obtain ⟨r6,hr6,hM⟩:=zaj hM
    refine zaO (bs:=[.sl .no 1 (a2.map cI),.fn (.func 69) [.agg (Wheel.cells a0.Wheel)] []]) (by decide) rfl rfl (zgc ((zk9 (Lo:=(fun (_:Unit)=>[]))  (fun _ _=>zfS) (fun _=>List.nodup_nil) (fun _=>zeW) (aF:=(fun (x0:Int) (_:Unit)=>(zcA a0 x0).map fun y=>(y,()))) (fun _ H hH=>(.fn _ _ _ (za0 (show Go.AM.Pure _ from .agg _ (zab (.v _) (zab (.sl _ _ (zaA (fun x=>(zab (.v _) zaJ)))) (zab (.sl _ _ (zaA (fun x=>(zab (.v _) zaJ)))) zaJ)))).inH zb2) zb2)) rfl (fun h=>zj4 (zij (zht h))) hr6).le (.k (.k .nil)))) ?_
    refine Pt (.b r6.1) hb5 ?_
    refine Oa (.b r6.1) ?_
    refine Ni ?_
    exact zai r6.1 (.k .nil) ⟨(hS.keep [true] rfl).up (by omega),hM⟩
   ·replace hM:=ifF hM hb5
    refine On (want:=true) hb5 ?_
    refine On (want:=true) hb5 ?_
    refine On (want:=true) hb5 ?_
    refine On (want:=true) hb5 ?_
    refine Pf (.b false) hb5 ?_
    refine Oa (.b false) ?_
    refine Ni ?_
    exact zai false (.k .nil) ⟨(hS.keep [true] rfl).up (by omega),hM⟩
  ·replace hM:=ifF hM hb3
   refine On (want:=true) hb3 ?_
   refine On (want:=true) hb3 ?_
   refine On (want:=true) hb3 ?_
   refine Pf (.b false) hb3 ?_
   refine Om (.b false) ?_
   refine Og ?_
   refine Og ?_
   refine Og ?_
   refine Og ?_
   refine zcJ (v:=.b false) (e:=false) (by decide) rfl rfl rfl ?_
   refine Oa (.b false) ?_
   refine Ni ?_
   exact zai false (.k .nil) ⟨(hS.keep [true] rfl).up (by omega),hM⟩
theorem zjp {n:Nat} {a0:Wheel_} {a1:Stand} {a2:Int} {r:Stand} (hM:zeE n a0 a1 a2=some r):zaR Try.prog 70 [.agg (Wheel.cells a0.Wheel),.agg (Stand.cells a1),.i a2] (.agg [.i r.Place,.i r.Credit]):=by
 refine zaz mixed Try.func70 rfl (by decide) Try.ntmps70 (by simp) ?pure fun H0 g hf=>?_
 case pure=>exact .agg _ (zab (.v _) (zab (.v _) zaJ))
 rw [zah]
 change wpA _ _ _ _ (Fr.of [(0,.agg (Wheel.cells a0.Wheel)),(1,.agg (Stand.cells a1)),(2,.i a2)]) H0 g
 have hS:=St.start hf
 refine Sq ?_
 refine Rg 3 ?_
 refine zcg (v:=.agg (Wheel.cells a0.Wheel)) (cs:=(Wheel.cells a0.Wheel)) hS (by decide) rfl rfl (by omega) fun H hS=>?_
 refine zcg (v:=.agg (Stand.cells a1)) (cs:=(Stand.cells a1)) hS (by decide) rfl rfl (by omega) fun H hS=>?_
 refine za4 hS (by decide) zc9 (by omega) fun H hS=>?_
 refine Ni ?_
 refine zaW (L':=[(g+2,.cells [.i 0,.i 0]),(g+1,.cells (Stand.cells a1))]) 2 3 hS rfl rfl rfl fun H hS=>?_
 refine zaW (L':=[(g+2,.cells [.i 0,.i 0])]) 1 4 hS rfl rfl rfl fun H hS=>?_
 refine Ws ?_
 refine Sq ?_
 refine zaB ?_
 refine Sq ?_
 refine Rg 3 ?_
 refine Om (.i a2) ?_
 refine Oi (.b (a2 != (-1))) ?_
 refine Oa (.b (a2 != (-1))) ?_
 refine Ni ?_
 refine Ws ?_
 rcases bft (a2 != (-1)) with hb1 | hb1
 ·replace hM:=ifT hM hb1
  refine Ct hb1 ?_
  refine Sq ?_
  have hS0:=hS
  refine zc4 (n:=15) rfl (by kernel_rfl) ?_
  refine Olg (.agg (Wheel.cells a0.Wheel)) zd7 ?_
  refine Of ((Stand.cells a1)) zdb ?_
  refine Olp (.i a1.Place) zaf zal ?_
  refine Of ((Wheel.cells a0.Wheel)) zda ?_
  refine Of ((Wheel.cells a0.Wheel)) zcE ?_
  refine Olp (.sl .no 1 (a0.Wheel.Coins.map cI)) zaI zaU ?_
  refine Om (.i a2) ?_
  obtain ⟨x2,hx2,hM⟩:=zaj hM
  refine za8 (xs:=a0.Wheel.Coins) (f:=cI) (z:=a2) (u:=x2) (by decide) rfl rfl zaP hx2 ?_
  refine Olp (.i x2) zaf zal ?_
  obtain ⟨r3,hr3,hM⟩:=zaj hM
  refine zaO (bs:=[.agg (Wheel.cells a0.Wheel),.i a1.Place,.i x2]) (by decide) rfl rfl ((zgk hr3).le (.k (.k (.k .nil)))) ?_
  refine Om (.tup [.i r3.1,.i r3.2]) ?_
  refine Ox (.i r3.1) ?_
  refine Ox (.i r3.2) ?_
  refine Oa (.i r3.1) ?_
  refine Oa (.i r3.2) ?_
  refine Ni ?_
  refine Ws ?_
  refine Sq ?_
  refine Rg 7 ?_
  refine Om (.i r3.1) ?_
  refine Of ((Stand.cells a1)) zcp ?_
  refine Olp (.i a1.Credit) zaf zal ?_
  refine Om (.i r3.2) ?_
  refine Oi (.i (w64 (a1.Credit+r3.2))) ?_
  refine zbf (cs:=[.i r3.1,.i (w64 (a1.Credit+r3.2))]) (by decide) zc9 zg6 rfl ?_
  refine zaC (v:=.agg [.i r3.1,.i (w64 (a1.Credit+r3.2))]) (ns:=[.i r3.1,.i (w64 (a1.Credit+r3.2))]) (L':=[(g+2,.cells [.i r3.1,.i (w64 (a1.Credit+r3.2))])]) 0 hS rfl rfl .no rfl rfl zfm nlb rfl fun H hS=>?_
  refine Ni ?_
  refine Ws ?_
  refine zaS ?_
  refine zaV ?_
  refine zao ?_
  refine zbe (x:=.agg [.i r3.1,.i (w64 (a1.Credit+r3.2))]) (f:=fun r=>.agg [.i r.Place,.i r.Credit]) (.inr rfl) ?_ (.refl _) (Option.some.inj hM) hS
  exact (zaw (zdh (x:=.agg [.i r3.1,.i (w64 (a1.Credit+r3.2))]) 0 hS rfl rfl (pg zfl)))
 ·replace hM:=ifF hM hb1
  refine Cf hb1 ?_
  refine Sq ?_
  refine Rg 4 ?_
  refine Of ((Stand.cells a1)) zcp ?_
  refine Olp (.i a1.Credit) zaf zal ?_
  refine Oi (.b (decide (a1.Credit>0))) ?_
  refine Oa (.b (decide (a1.Credit>0))) ?_
  refine Ni ?_
  refine Ws ?_
  rcases bft (decide (a1.Credit>0)) with hb4 | hb4
  ·replace hM:=ifT hM hb4
   refine Ct hb4 ?_
   refine Sq ?_
   refine Rg 5 ?_
   refine Of ((Stand.cells a1)) zcp ?_
   refine Olp (.i a1.Credit) zaf zal ?_
   refine Oi (.i (w64 (a1.Credit-1))) ?_
   refine zbf (cs:=[.i 0,.i (w64 (a1.Credit-1))]) (by decide) zc9 zg6 rfl ?_
   refine zaC (v:=.agg [.i 0,.i (w64 (a1.Credit-1))]) (ns:=[.i 0,.i (w64 (a1.Credit-1))]) (L':=[(g+2,.cells [.i 0,.i (w64 (a1.Credit-1))])]) 0 hS rfl rfl .no rfl rfl zfm nlb rfl fun H hS=>?_
   refine Ni ?_
   refine Ws ?_
   refine zaS ?_
   refine zaV ?_
   refine zao ?_
   refine zbe (x:=.agg [.i 0,.i (w64 (a1.Credit-1))]) (f:=fun r=>.agg [.i r.Place,.i r.Credit]) (.inr rfl) ?_ (.refl _) (Option.some.inj hM) hS
   exact (zaw (zdh (x:=.agg [.i 0,.i (w64 (a1.Credit-1))]) 0 hS rfl rfl (pg zfl)))
  ·replace hM:=ifF hM hb4
   refine Cf hb4 ?_
   refine zay ?_
   refine zas ?_
   refine Ws ?_
   refine Sq ?_
   refine Rg 2 ?_
   refine Olg (.agg (Stand.cells a1)) zfl ?_
   refine zaC (v:=.agg (Stand.cells a1)) (ns:=(Stand.cells a1)) (L':=[(g+2,.cells (Stand.cells a1))]) 0 hS rfl rfl .no rfl rfl zfm nlb rfl fun H hS=>?_
   refine Ni ?_
   refine zg8 [(6,.ptr (g+2) 0)] (.k .nil) ?_
   refine zaS ?_
   refine zbe (x:=.agg (Stand.cells a1)) (f:=fun r=>.agg [.i r.Place,.i r.Credit]) (.inr rfl) ?_ (.refl _) (Option.some.inj hM) hS
   exact (zaw (zdh (x:=.agg (Stand.cells a1)) 0 hS rfl rfl (pg zfl)))
theorem zla {n:Nat} {a0:Wheel} {a1:Stand} {a2:List Int} {r:Stand×Int×Int} (hM:zeF n a0 a1 a2=some r):zaR Try.prog 62 [.agg (Wheel.cells a0),.agg (Stand.cells a1),.sl .no 1 (a2.map cI)] (.tup [.agg [.i r.1.Place,.i r.1.Credit],.i r.2.1,.i r.2.2]):=by
 refine zaz mixed Try.func62 rfl (by decide) Try.ntmps62 (by simp) ?pure fun H0 g hf=>?_
 case pure=>exact .tup _ (zab (.agg _ (zab (.v _) (zab (.v _) zaJ))) (zab (.v _) (zab (.v _) zaJ)))
 rw [zah]
 change wpA _ _ _ _ (Fr.of [(0,.agg (Wheel.cells a0)),(1,.agg (Stand.cells a1)),(2,.sl .no 1 (a2.map cI))]) H0 g
 have hS:=St.start hf
 refine Sq ?_
 refine Rg 6 ?_
 refine zcg (v:=.agg (Wheel.cells a0)) (cs:=(Wheel.cells a0)) hS (by decide) rfl rfl (by omega) fun H hS=>?_
 refine zcg (v:=.agg (Stand.cells a1)) (cs:=(Stand.cells a1)) hS (by decide) rfl rfl (by omega) fun H hS=>?_
 refine zcg (v:=.sl .no 1 (a2.map cI)) (cs:=[.sl .no 1 (a2.map cI)]) hS (by decide) rfl rfl (by omega) fun H hS=>?_
 refine za4 hS (by decide) zc9 (by omega) fun H hS=>?_
 refine Oa (.i 0) ?_
 refine Oa (.i 0) ?_
 refine Ni ?_
 refine zaW (L':=[(g+3,.cells [.i 0,.i 0]),(g+2,.cells [.sl .no 1 (a2.map cI)]),(g+1,.cells (Stand.cells a1))]) 3 3 hS rfl rfl rfl fun H hS=>?_
 refine zaW (L':=[(g+3,.cells [.i 0,.i 0]),(g+1,.cells (Stand.cells a1))]) 1 5 hS rfl rfl rfl fun H hS=>?_
 refine Ws ?_
 refine Sq ?_
 refine Rg 9 ?_
 refine Olg (.agg (Wheel.cells a0)) zdq ?_
 refine zcL (first:=[]) (cap:=[.ptr (g+1) 0,.ep [.sl .no 1 (a2.map cI)]]) (by decide) rfl rfl ?_
 obtain ⟨r1,hr1,hM⟩:=zaj hM
 have hndr1:=hS.nd_at (ns:=[1]) (M:=[(g+1,.cells (Stand.cells a1))]) (M':=[(g+1,.cells (Stand.cells a1))]) (.cons rfl .nil) (by decide)
 have hncr1:=hS.nd_at (ns:=[1]) (M:=[(g+1,.cells (Stand.cells a1))]) (M':=[(g+1,.cells (Stand.cells a1))]) (.cons rfl .nil) (by decide)
 refine zlV (bs:=[.agg (Wheel.cells a0),.fn (.func 66) [] [.ptr (g+1) 0,.ep [.sl .no 1 (a2.map cI)]]]) (M:=[(g+1,.cells (Stand.cells a1))]) (M':=[(g+1,.cells (Stand.cells a1))]) (L':=[(g+3,.cells [.i 0,.i 0]),(g+1,.cells (Stand.cells a1))]) [1] (.inl rfl) hS (by decide) rfl rfl ((zhD (Lo:=(fun (_:Unit)=>[(g+1,.cells (Stand.cells a1))]))  (fun _ _=>(zd1 zfS)) (fun _=>hndr1) (fun s=>(ziC (zeA (zbK (.inl (.inl (.v _))) (zbK (.inl (.inl (.v _))) zhs)) ziB) zeW)) (aF:=(fun (x0:Wheel_) (_:Unit)=>(zfi n x0 a1 a2).map fun y=>(y,()))) (fun s H hH=>(.fn _ _ _ zb2 (za0 (znt hH 0 rfl) (za0 (.ep _ (za0 (show Go.AM.Pure _ from .sl _ _ (zaA (fun x=>(zab (.v _) zaJ)))).inH zb2)) zb2)))) rfl (fun h=>zif (zly (p1:=g+1)  hncr1 (zht h))) hr1).le (.k (.k .nil))) (.cons rfl .nil) rfl (by omega) fun H hS=>?_
 refine Om (.tup [.agg (Wheel.cells r1.1.1.Wheel),.i r1.1.2]) ?_
 refine Ox (.agg (Wheel.cells r1.1.1.Wheel)) ?_
 refine Ox (.i r1.1.2) ?_
 refine za4 hS (by decide) zfk (by omega) fun H hS=>?_
 refine zaC (v:=.agg (Wheel.cells r1.1.1.Wheel)) (ns:=(Wheel.cells r1.1.1.Wheel)) (L':=[(g+6+6,.cells (Wheel.cells r1.1.1.Wheel)),(g+3,.cells [.i 0,.i 0]),(g+1,.cells (Stand.cells a1))]) 0 hS rfl rfl .no rfl rfl zhT nlb rfl fun H hS=>?_
 refine Oa (.i r1.1.2) ?_
 refine Ni ?_
 refine zaW (L':=[(g+3,.cells [.i 0,.i 0]),(g+1,.cells (Stand.cells a1))]) 0 9 hS rfl rfl rfl fun H hS=>?_
 refine Ws ?_
 refine Sq ?_
 refine Sq ?_
 refine Rg 2 ?_
 refine Om (.i r1.1.2) ?_
 refine Oi (.b (r1.1.2 != 0)) ?_
 refine Ni ?_
 refine Ws ?_
 rcases bft (r1.1.2 != 0) with hb2 | hb2
 ·replace hM:=ifT hM hb2
  refine Ct hb2 ?_
  refine Sq ?_
  refine Rg 5 ?_
  refine zbf (cs:=[.i 0,.i 0]) (by decide) zc9 zg6 rfl ?_
  refine Om (.i r1.1.2) ?_
  refine zaC (v:=.agg [.i 0,.i 0]) (ns:=[.i 0,.i 0]) (L':=[(g+3,.cells [.i 0,.i 0]),(g+1,.cells (Stand.cells a1))]) 0 hS rfl rfl .no rfl rfl zfm nlb rfl fun H hS=>?_
  refine Oa (.i 0) ?_
  refine Oa (.i r1.1.2) ?_
  refine Ni ?_
  replace hS:=hS.keep (L':=[(g+3,.cells [.i 0,.i 0])]) [true,false] rfl
  refine Ws ?_
  refine zaS ?_
  refine zao ?_
  refine zbe (x:=.tup [.agg [.i 0,.i 0],.i 0,.i r1.1.2]) (f:=fun r=>.tup [.agg [.i r.1.Place,.i r.1.Credit],.i r.2.1,.i r.2.2]) (.inr rfl) ?_ (.refl _) (Option.some.inj hM) hS
  exact (zfR (zdh (x:=.agg [.i 0,.i 0]) 0 hS rfl rfl (pg zfl)) (zae (x:=.i 0) rfl) (zae (x:=.i r1.1.2) rfl))
 ·replace hM:=ifF hM hb2
  refine Cf hb2 ?_
  refine zay ?_
  refine Ws ?_
  refine zaY (J:=Int×Int×Int) (fun j=>[(4,.ptr (g+1) 0),(6,.ptr (g+3) 0),(7,.i j.1)]) (fun j H' g'=>St (·<g) H0 [(g+3,.cells [.i 0,.i 0]),(g+1,.cells [.i j.2.1,.i j.2.2])] H' g'/\zgh j.1 j.2.1 j.2.2=some r) ?_ ?_
  ·rintro ⟨v3,v4,v5⟩ H g1 ⟨hS,hM⟩
   change wpA _ _ _ _ (Fr.of [(4,.ptr (g+1) 0),(6,.ptr (g+3) 0),(7,.i v3)]) _ _
   replace hS:St (·<g) H0 [(g+3,.cells [.i 0,.i 0]),(g+1,.cells [.i v4,.i v5])] H g1:=hS
   replace hM:zgh v3 v4 v5=some r:=hM
   refine Sq ?_
   refine Rg 5 ?_
   refine zaK (v:=.agg [.i v4,.i v5]) 1 hS (by decide) rfl rfl .no (pg zfl) ?_
   refine Om (.i v3) ?_
   refine zaC (v:=.agg [.i v4,.i v5]) (ns:=[.i v4,.i v5]) (L':=[(g+3,.cells [.i v4,.i v5]),(g+1,.cells [.i v4,.i v5])]) 0 hS rfl rfl .no rfl rfl zfm nlb rfl fun H hS=>?_
   refine Oa (.i v3) ?_
   refine Oa (.i 0) ?_
   refine Ni ?_
   replace hS:=hS.keep (L':=[(g+3,.cells [.i v4,.i v5])]) [true,false] rfl
   refine Ws ?_
   refine zaS ?_
   refine zbe (x:=.tup [.agg [.i v4,.i v5],.i v3,.i 0]) (f:=fun r=>.tup [.agg [.i r.1.Place,.i r.1.Credit],.i r.2.1,.i r.2.2]) (.inr rfl) ?_ (.refl _) (Option.some.inj hM) hS
   exact (zfR (zdh (x:=.agg [.i v4,.i v5]) 0 hS rfl rfl (pg zfl)) (zae (x:=.i v3) rfl) (zae (x:=.i 0) rfl))
  ·refine Sq ?_
   refine Rg 3 ?_
   refine Olp (.sl .no 1 (a2.map cI)) zaI zaU ?_
   refine zb9 (n:=a2.length) (by decide) rfl (List.length_map _) zaQ ?_
   refine Om (.i 0) ?_
   refine Ni ?_
   refine Ws ?_
   refine zaB ?_
   refine zco (V:=Int×Int×Int×Int) (fun v=>[(4,.ptr (g+1) 0),(6,.ptr (g+3) 0),(7,.i v.1),(9,.ep (Wheel.cells r1.1.1.Wheel)),(22,.sl .no 1 (a2.map cI)),(23,.i (a2.length:Int)),(24,.i v.2.1)]) (fun v m3 H' g'=>St (·<g) H0 [(g+3,.cells [.i 0,.i 0]),(g+1,.cells [.i v.2.2.1,.i v.2.2.2])] H' g'/\zbG n a2 r1 m3 v.1 v.2.1 v.2.2.1 v.2.2.2=some r) (n:=n) (0,0,a1.Place,a1.Credit) (.k (.k (.k (.k (.k (.k (.k .nil))))))) ⟨(hS.keep [true,true] rfl).up (by omega),hM⟩ ?_
   rintro ⟨v8,v9,v10,v11⟩ m3 H g3 ⟨hS,hM⟩
   obtain _ | m3:=m3
   ·exact nomatch (show none=some _ from hM)
   change wpA _ _ _ _ (Fr.of [(4,.ptr (g+1) 0),(6,.ptr (g+3) 0),(7,.i v8),(9,.ep (Wheel.cells r1.1.1.Wheel)),(22,.sl .no 1 (a2.map cI)),(23,.i (a2.length:Int)),(24,.i v9)]) _ _
   replace hS:St (·<g) H0 [(g+3,.cells [.i 0,.i 0]),(g+1,.cells [.i v10,.i v11])] H g3:=hS
   replace hM:ze7 n a2 r1 (zbG n a2 r1 m3) v8 v9 v10 v11=some r:=hM
   refine Sq ?_
   refine Rg 1 ?_
   refine Oi (.b (decide (v9<(a2.length:Int)))) ?_
   refine Ni ?_
   refine Ws ?_
   refine Sq ?_
   rcases bft (decide (v9<(a2.length:Int))) with hb12 | hb12
   ·replace hM:=ifT hM hb12
    refine Ct hb12 ?_
    refine zay ?_
    refine Ws ?_
    refine Sq ?_
    refine zaB ?_
    refine Sq ?_
    refine Rg 3 ?_
    obtain ⟨x13,hx13,hM⟩:=zaj hM
    refine za8 (xs:=a2) (f:=cI) (z:=v9) (u:=x13) (by decide) rfl rfl zaP hx13 ?_
    refine Olp (.i x13) zaf zal ?_
    refine Oa (.i x13) ?_
    refine Ni ?_
    refine Ws ?_
    refine zaY (J:=Int) (fun j=>[(4,.ptr (g+1) 0),(6,.ptr (g+3) 0),(7,.i j),(9,.ep (Wheel.cells r1.1.1.Wheel)),(11,.i x13),(22,.sl .no 1 (a2.map cI)),(23,.i (a2.length:Int)),(24,.i v9)]) (fun j H' g'=>St (·<g) H0 [(g+3,.cells [.i 0,.i 0]),(g+1,.cells [.i v10,.i v11])] H' g'/\zfj n (zbG n a2 r1 m3) r1 v9 v10 v11 x13 j=some r) ?_ ?_
    ·rintro v14 H g4 ⟨hS,hM⟩
     change wpA _ _ _ _ (Fr.of [(4,.ptr (g+1) 0),(6,.ptr (g+3) 0),(7,.i v14),(9,.ep (Wheel.cells r1.1.1.Wheel)),(11,.i x13),(22,.sl .no 1 (a2.map cI)),(23,.i (a2.length:Int)),(24,.i v9)]) _ _
     replace hS:St (·<g) H0 [(g+3,.cells [.i 0,.i 0]),(g+1,.cells [.i v10,.i v11])] H g4:=hS
     replace hM:zfj n (zbG n a2 r1 m3) r1 v9 v10 v11 x13 v14=some r:=hM
     refine Rg 5 ?_
     refine Olg (.agg (Wheel.cells r1.1.1.Wheel)) zd7 ?_
     refine zaK (v:=.agg [.i v10,.i v11]) 1 hS (by decide) rfl rfl .no (pg zfl) ?_
     refine Om (.i x13) ?_
     obtain ⟨r15,hr15,hM⟩:=zaj hM
     refine zaO (bs:=[.agg (Wheel.cells r1.1.1.Wheel),.agg [.i v10,.i v11],.i x13]) (by decide) rfl rfl ((zjp hr15).le (.k (.k (.k .nil)))) ?_
     refine zaC (v:=.agg (Stand.cells r15)) (ns:=(Stand.cells r15)) (L':=[(g+3,.cells [.i 0,.i 0]),(g+1,.cells (Stand.cells r15))]) 1 hS rfl rfl .no rfl rfl zfm nlb rfl fun H hS=>?_
     refine Ni ?_
     refine zas ?_
     refine Ws ?_
     refine Rg 2 ?_
     refine Oi (.i (w64 (v9+1))) ?_
     refine Om (.i (w64 (v9+1))) ?_
     refine Ni ?_
     exact zbo (v14,w64 (v9+1),r15.Place,r15.Credit) (Nat.lt_succ_self _) (.k (.k (.k (.k (.k (.k (.k .nil))))))) ⟨(hS.keep [true,true] rfl).up (by omega),hM⟩
    ·refine zaY (J:=Bool) (fun j=>[(4,.ptr (g+1) 0),(6,.ptr (g+3) 0),(7,.i v8),(9,.ep (Wheel.cells r1.1.1.Wheel)),(11,.i x13),(22,.sl .no 1 (a2.map cI)),(23,.i (a2.length:Int)),(24,.i v9),(34,.b j)]) (fun j H' g'=>St (·<g) H0 [(g+3,.cells [.i 0,.i 0]),(g+1,.cells [.i v10,.i v11])] H' g'/\zev n (zbG n a2 r1 m3) r1 v8 v9 v10 v11 x13 j=some r) ?_ ?_
     ·rintro v16 H g5 ⟨hS,hM⟩
      change wpA _ _ _ _ (Fr.of [(4,.ptr (g+1) 0),(6,.ptr (g+3) 0),(7,.i v8),(9,.ep (Wheel.cells r1.1.1.Wheel)),(11,.i x13),(22,.sl .no 1 (a2.map cI)),(23,.i (a2.length:Int)),(24,.i v9),(34,.b v16)]) _ _
      replace hS:St (·<g) H0 [(g+3,.cells [.i 0,.i 0]),(g+1,.cells [.i v10,.i v11])] H g5:=hS
      replace hM:zev n (zbG n a2 r1 m3) r1 v8 v9 v10 v11 x13 v16=some r:=hM
      rcases bft v16 with hb17 | hb17
      ·replace hM:=ifT hM hb17
       refine Ct hb17 ?_
       refine Rg 3 ?_
       refine Om (.i v8) ?_
       refine Oi (.i (w64 (v8+1))) ?_
       refine Oa (.i (w64 (v8+1))) ?_
       refine Ni ?_
       exact zai (w64 (v8+1)) (.k (.k (.k (.k (.k (.k (.k (.k .nil)))))))) ⟨(hS.keep [true,true] rfl).up (by omega),hM⟩
      ·replace hM:=ifF hM hb17
       refine Cf hb17 ?_
       refine zay ?_
       exact zai v8 (.k (.k (.k (.k (.k (.k (.k (.k .nil)))))))) ⟨(hS.keep [true,true] rfl).up (by omega),hM⟩
     ·refine Rg 7 ?_
      refine Om (.i x13) ?_
      refine Oi (.b (x13==(-1))) ?_
      refine Om (.b (x13==(-1))) ?_
      rcases bft (x13==(-1)) with hb18 | hb18
      ·replace hM:=ifT hM hb18
       refine Oy (want:=true) hb18 ?_
       refine zap (by decide) zcp rfl ?_
       refine Oy (want:=true) hb18 ?_
       refine zaK (v:=.i v11) 1 hS (by decide) rfl rfl .no (po zaf zal) ?_
       refine Oy (want:=true) hb18 ?_
       refine Oi (.b (decide (v11>0))) ?_
       refine Pt (.b (decide (v11>0))) hb18 ?_
       refine Ni ?_
       exact zai (decide (v11>0)) (.k (.k (.k (.k (.k (.k (.k (.k (.k .nil))))))))) ⟨(hS.keep [true,true] rfl).up (by omega),hM⟩
      ·replace hM:=ifF hM hb18
       refine On (want:=true) hb18 ?_
       refine On (want:=true) hb18 ?_
       refine On (want:=true) hb18 ?_
       refine Pf (.b false) hb18 ?_
       refine Ni ?_
       exact zai false (.k (.k (.k (.k (.k (.k (.k (.k (.k .nil))))))))) ⟨(hS.keep [true,true] rfl).up (by omega),hM⟩
   ·replace hM:=ifF hM hb12
    refine Cf hb12 ?_
    refine zb1 ?_
    refine zav ?_
    refine zau ?_
    refine zaD ?_
    exact zai (v8,v10,v11) (.k (.k (.k .nil))) ⟨(hS.keep [true,true] rfl).up (by omega),hM⟩
theorem zi7 {n:Nat} {a0:Option Box_} {al:Bag_} {r:List (PointT_×Step_)} (hM:zen n a0 al=some r):zuA Try.prog 55 [pA Box_.cells a0,.agg (Bag_.cells al)] (zag (mpw zad zan r)):=by
 refine zqD mixed Try.func55 rfl (by decide) Try.ntmps55 (by simp) fun H0 g hf=>?_
 rw [zah]
 change wpA _ _ _ _ (Fr.of [(0,pA Box_.cells a0),(1,.agg (Bag_.cells al))]) H0 g
 have hS:=St.start hf
 unfold zen at hM
 obtain ⟨b,hb0,hM⟩:=zaj hM
 refine Sq ?_
 refine Rg 2 ?_
 refine zcg (v:=.agg (Bag_.cells al)) (cs:=(Bag_.cells al)) hS (by decide) rfl rfl (by omega) fun H hS=>?_
 refine Oa (.v (.map none)) ?_
 refine Ni ?_
 refine Ws ?_
 refine Sq ?_
 refine Rg 7 ?_
 refine zl0 (kv:=zad) (cv:=zan) hS (by decide) zfX (by omega) fun H hS=>?_
 refine zbf (cs:=[.i 0,.i 0,.i 0,.i 0,.i 0,.i 0,.i 0]) (by decide) zew zkc rfl ?_
 refine zbf (cs:=[.i (-2),.i 0,.i 0,.i 0,.i 0,.i 0,.i 0,.i 0]) (by decide) zgG zpF rfl ?_
 refine zr2 (kv:=zad) (ok:=zbF) (cv:=zan) (z0:=za9) (M:=[]) (k:=zaG) (v:=⟨-2,zaG⟩) (M':=([(zaG,(⟨-2,zaG⟩:Step_))]:List (PointT_×Step_))) (L':=[(g+2+0,.obj none (zag (mpw zad zan ([(zaG,(⟨-2,zaG⟩:Step_))]:List (PointT_×Step_))))),(g+0,.cells (Bag_.cells al))]) 0 zk5 (.inl rfl) hS rfl rfl rfl rfl zfX zhG (by decide) rfl fun H hS=>?_
 refine Om (.mp (g+2+0)) ?_
 refine za4 hS (by decide) zqP (by omega) fun H hS=>?_
 refine zaC (v:=.mp (g+2+0)) (ns:=[.mp (g+2+0)]) (L':=[(g+2+5,.cells [.mp (g+2+0)]),(g+2+0,.obj none (zag (mpw zad zan ([(zaG,(⟨-2,zaG⟩:Step_))]:List (PointT_×Step_))))),(g+0,.cells (Bag_.cells al))]) 0 hS rfl rfl .no rfl rfl zss nlb rfl fun H hS=>?_
 refine Ni ?_
 refine Ws ?_
 refine Sq ?_
 refine Rg 4 ?_
 refine zbf (cs:=[.i 0,.i 0,.i 0,.i 0,.i 0,.i 0,.i 0]) (by decide) zew zkc rfl ?_
 refine zws (e:=125) (es:=[[.i 0,.i 0,.i 0,.i 0,.i 0,.i 0,.i 0]]) hS (by decide) ziZ zpG rfl zmP rfl (by decide) (by omega) fun H hS=>?_
 replace hS:St (·<g) H0 [quB PointT_.cells (g+2+7+1) [] [zaG],(g+2+5,.cells [.mp (g+2+0)]),(g+2+0,.obj none (zag (mpw zad zan ([(zaG,(⟨-2,zaG⟩:Step_))]:List (PointT_×Step_))))),(g+0,.cells (Bag_.cells al))] H (g+2+7+1+1):=hS
 refine za4 hS (by decide) zqQ (by omega) fun H hS=>?_
 refine zaC (v:=quV 7 (g+2+7+1) [] [zaG]) (ns:=[quV 7 (g+2+7+1) [] [zaG]]) (L':=[(g+2+7+2,.cells [quV 7 (g+2+7+1) [] [zaG]]),quB PointT_.cells (g+2+7+1) [] [zaG],(g+2+5,.cells [.mp (g+2+0)]),(g+2+0,.obj none (zag (mpw zad zan ([(zaG,(⟨-2,zaG⟩:Step_))]:List (PointT_×Step_))))),(g+0,.cells (Bag_.cells al))]) 0 hS rfl rfl .no rfl rfl zkU nlb rfl fun H hS=>?_
 refine Ni ?_
 refine Ws ?_
 replace hS:=hS.toHead (L':=[(g+2+0,.obj none (zag (mpw zad zan ([(zaG,(⟨-2,zaG⟩:Step_))]:List (PointT_×Step_))))),(g+2+7+2,.cells [quV 7 (g+2+7+1) [] [zaG]]),quB PointT_.cells (g+2+7+1) [] [zaG],(g+2+5,.cells [.mp (g+2+0)]),(g+0,.cells (Bag_.cells al))]) 3 nlb rfl
 replace hS:=hS.toHead (L':=[(g+2+7+2,.cells [quV 7 (g+2+7+1) [] [zaG]]),(g+2+0,.obj none (zag (mpw zad zan ([(zaG,(⟨-2,zaG⟩:Step_))]:List (PointT_×Step_))))),quB PointT_.cells (g+2+7+1) [] [zaG],(g+2+5,.cells [.mp (g+2+0)]),(g+0,.cells (Bag_.cells al))]) 1 nlb rfl
 replace hS:=hS.toHead (L':=[(g+2+5,.cells [.mp (g+2+0)]),(g+2+7+2,.cells [quV 7 (g+2+7+1) [] [zaG]]),(g+2+0,.obj none (zag (mpw zad zan ([(zaG,(⟨-2,zaG⟩:Step_))]:List (PointT_×Step_))))),quB PointT_.cells (g+2+7+1) [] [zaG],(g+0,.cells (Bag_.cells al))]) 3 nlb rfl
 replace hS:=hS.toHead (L':=[(g+0,.cells (Bag_.cells al)),(g+2+5,.cells [.mp (g+2+0)]),(g+2+7+2,.cells [quV 7 (g+2+7+1) [] [zaG]]),(g+2+0,.obj none (zag (mpw zad zan ([(zaG,(⟨-2,zaG⟩:Step_))]:List (PointT_×Step_))))),quB PointT_.cells (g+2+7+1) [] [zaG]]) 4 nlb rfl
 replace hS:=hS.toHead (L':=[quB PointT_.cells (g+2+7+1) [] [zaG],(g+0,.cells (Bag_.cells al)),(g+2+5,.cells [.mp (g+2+0)]),(g+2+7+2,.cells [quV 7 (g+2+7+1) [] [zaG]]),(g+2+0,.obj none (zag (mpw zad zan ([(zaG,(⟨-2,zaG⟩:Step_))]:List (PointT_×Step_)))))]) 4 nlb rfl
 refine Sq ?_
 refine zaB ?_
 refine zco (V:=ziO×Nat×List AV) (fun v=>[(0,pA Box_.cells a0),(3,.ptr (g+0) 0),(5,.ptr (g+2+5) 0),(6,.ptr (g+2+7+2) 0)]) (fun v k H' g'=>St (·<g) H0 [quB PointT_.cells v.2.1 v.2.2 v.1.2,(g+0,.cells (Bag_.cells al)),(g+2+5,.cells [.mp (g+2+0)]),(g+2+7+2,.cells [quV 7 v.2.1 v.2.2 v.1.2]),(g+2+0,.obj none (zag (mpw zad zan v.1.1)))] H' g'/\(∀c,c∈v.2.2->Go.AM.Pure c)/\zdy n b al k v.1=some r) (n:=n) ((([(zaG,(⟨-2,zaG⟩:Step_))]:List (PointT_×Step_)),[zaG]),(g+2+7+1),[]) (.k (.k (.k (.k .nil)))) ⟨hS.up (by omega),(fun c h=>by simp at h),hM⟩ ?_
 rintro ⟨⟨S1,S2⟩,q,pre⟩ m H g1 ⟨hS,hpre,hM⟩
 obtain _ | m:=m
 ·exact nomatch (show none=some _ from hM)
 replace hpre:∀c,c∈pre->Go.AM.Pure c:=hpre
 change wpA _ _ _ _ (Fr.of [(0,pA Box_.cells a0),(3,.ptr (g+0) 0),(5,.ptr (g+2+5) 0),(6,.ptr (g+2+7+2) 0)]) _ _
 replace hS:St (·<g) H0 [quB PointT_.cells q pre S2,(g+0,.cells (Bag_.cells al)),(g+2+5,.cells [.mp (g+2+0)]),(g+2+7+2,.cells [quV 7 q pre S2]),(g+2+0,.obj none (zag (mpw zad zan S1)))] H g1:=hS
 refine Sq ?_
 refine Sq ?_
 refine Rg 3 ?_
 refine zaK (v:=quV 7 q pre S2) 3 hS (by decide) rfl rfl .no (po ziY zkd) ?_
 refine zu9 (n:=S2.length) (by decide) rfl zsu ?_
 refine Oi (.b (decide ((S2.length:Int)>0))) ?_
 refine Ni ?_
 refine Ws ?_
 cases S2 with
 | nil =>
  obtain rfl:S1=r:=Option.some.inj hM
  refine zeV (e:=decide ((([]:List PointT_).length:Int)>0)) rfl (by decide) ?_
  refine zb1 ?_
  refine zav ?_
  refine zau ?_
  refine zaD ?_
  refine Ws ?_
  refine Sq ?_
  refine Rg 2 ?_
  refine zaK (v:=.mp (g+2+0)) 2 hS (by decide) rfl rfl .no (po zkT zmO) ?_
  refine Oa (.mp (g+2+0)) ?_
  refine Ni ?_
  refine Ws ?_
  refine zaS ?_
  exact zva (j:=(g+2+0)) 4 (.inr rfl) (zaw (zae rfl)) hS rfl rfl
 | cons x xs =>
  replace hM:Option.bind (ze8 n b al x (S1,xs)) (fun S1=>Option.bind (zbu n b al x n 0 S1) fun S2=>zdy n b al m S2)=some r:=hM
  obtain ⟨SA,hSA,hM⟩:=zaj hM
  obtain ⟨SB,hSB,hM⟩:=zaj hM
  refine zhq (e:=decide (((x::xs).length:Int)>0)) rfl (decide_eq_true (by rw [List.length_cons];omega)) ?_
  refine zay ?_
  refine Ws ?_
  refine zaB ?_
  refine Sq ?_
  refine Rg 5 ?_
  refine zaK (v:=quV 7 q pre (x::xs)) 3 hS (by decide) rfl rfl .no (po ziY zkd) ?_
  refine zr3 (k:=7) (by decide) rfl rfl ziZ ?_
  refine zoL (k:=7) (f:=PointT_.cells) hS (by decide) rfl .no zfn (fun _=>rfl) ?_
  refine za4 hS (by decide) zew (by omega) fun H hS=>?_
  refine zaC (v:=.agg (PointT_.cells x)) (ns:=(PointT_.cells x)) (L':=[(g1+3+3,.cells (PointT_.cells x)),quB PointT_.cells q pre (x::xs),(g+0,.cells (Bag_.cells al)),(g+2+5,.cells [.mp (g+2+0)]),(g+2+7+2,.cells [quV 7 q pre (x::xs)]),(g+2+0,.obj none (zag (mpw zad zan S1)))]) 0 hS rfl rfl .no rfl rfl ziW nlb rfl fun H hS=>?_
  refine Ni ?_
  refine Ws ?_
  refine Sq ?_
  refine Rg 3 ?_
  refine zaK (v:=quV 7 q pre (x::xs)) 4 hS (by decide) rfl rfl .no (po ziY zkd) ?_
  refine zqG (k:=7) (f:=PointT_.cells) (by decide) rfl rfl ziZ (fun _=>rfl) ?_
  refine zaC (v:=quV 7 q (pre++x.cells) xs) (ns:=[quV 7 q (pre++x.cells) xs]) (L':=[(g1+3+3,.cells (PointT_.cells x)),quB PointT_.cells q pre (x::xs),(g+0,.cells (Bag_.cells al)),(g+2+5,.cells [.mp (g+2+0)]),(g+2+7+2,.cells [quV 7 q (pre++x.cells) xs]),(g+2+0,.obj none (zag (mpw zad zan S1)))]) 4 hS rfl rfl .no rfl rfl zkU nlb rfl fun H hS=>?_
  refine Ni ?_
  rw [zvd] at hS
  have hpre1:∀c,c∈pre++x.cells->Go.AM.Pure c:=fun c hc=>by
   rcases List.mem_append.1 hc with hc | hc
   ·exact hpre c hc
   ·exact (show ∀c,c∈(PointT_.cells x)->Go.AM.Pure c from zab (.v _) (zab (.v _) (zab (.v _) (zab (.v _) (zab (.v _) (zab (.v _) (zab (.v _) zaJ))))))) c hc
  generalize pre++x.cells=preX at hS hpre1 ⊢
  replace hS:=hS.perm (L':=[quB PointT_.cells q preX xs,(g+0,.cells (Bag_.cells al)),(g+2+5,.cells [.mp (g+2+0)]),(g1+3+3,.cells (PointT_.cells x)),(g+2+7+2,.cells [quV 7 q preX xs]),(g+2+0,.obj none (zag (mpw zad zan S1)))]) (List.perm_append_comm (l₁:=[_,_,_]) (l₂:=[_]) |>.append_right _)
  refine Ws ?_
  refine Sq ?_
  refine Rg 2 ?_
  refine zcL (first:=[]) (cap:=[.ptr (g+0) 0,.ptr (g+2+5) 0,.ptr (g1+3+3) 0,.ptr (g+2+7+2) 0]) (by decide) rfl rfl ?_
  refine Oa (.fn (.func 60) [] [.ptr (g+0) 0,.ptr (g+2+5) 0,.ptr (g1+3+3) 0,.ptr (g+2+7+2) 0]) ?_
  refine Ni ?_
  refine Ws ?_
  refine zaY (J:=ziO×Nat×List AV) (fun j=>[(0,pA Box_.cells a0),(3,.ptr (g+0) 0),(5,.ptr (g+2+5) 0),(6,.ptr (g+2+7+2) 0),(7,.ptr (g1+3+3) 0),(8,.fn (.func 60) [] [.ptr (g+0) 0,.ptr (g+2+5) 0,.ptr (g1+3+3) 0,.ptr (g+2+7+2) 0])]) (fun j H' g'=>St (·<g) H0 [quB PointT_.cells j.2.1 j.2.2 j.1.2,(g+0,.cells (Bag_.cells al)),(g+2+5,.cells [.mp (g+2+0)]),(g1+3+3,.cells (PointT_.cells x)),(g+2+7+2,.cells [quV 7 j.2.1 j.2.2 j.1.2]),(g+2+0,.obj none (zag (mpw zad zan j.1.1)))] H' g'/\(∀c,c∈j.2.2->Go.AM.Pure c)/\j.1=SA) ?_ ?_
  rotate_left
  ·-- the selection
   refine Sq ?_
   refine Rg 10 ?_
   refine zap (by decide) zcq rfl ?_
   refine zap (by decide) zcp rfl ?_
   refine zaK (v:=.i x.Stand.Credit) 3 hS (by decide) rfl rfl .no (po zaf zal) ?_
   refine Oi (.b (decide (x.Stand.Credit>0))) ?_
   refine Om (.b (decide (x.Stand.Credit>0))) ?_
   rcases bft (decide (x.Stand.Credit>0)) with hc1 | hc1
   ·replace hSA:=ifT hSA hc1
    refine Oy (want:=true) hc1 ?_
    refine zap (by decide) zcq rfl ?_
    refine Oy (want:=true) hc1 ?_
    refine zap (by decide) zdb rfl ?_
    refine Oy (want:=true) hc1 ?_
    refine zaK (v:=.i x.Stand.Place) 3 hS (by decide) rfl rfl .no (po zaf zal) ?_
    refine Oy (want:=true) hc1 ?_
    refine Oi (.b (decide (x.Stand.Place>0))) ?_
    refine Pt (.b (decide (x.Stand.Place>0))) hc1 ?_
    refine Ni ?_
    refine Ws ?_
    rcases bft (decide (x.Stand.Place>0)) with hc2 | hc2
    ·replace hSA:=ifT hSA hc2
     refine Ct hc2 ?_
     refine Sq ?_
     have hS0:=hS
     refine zc4 (n:=19) rfl (by kernel_rfl) ?_
     refine Om (pA Box_.cells a0) ?_
     refine zh2 (f:=Box_.cells) (p:=a0) (u:=b) (by decide) rfl hb0 ?_
     refine Of ((Box.cells b.Box)) zeg ?_
     refine Of ((Box.cells b.Box)) zfY ?_
     refine Olg (.agg (Wheel.cells b.Box.Wheel)) zdq ?_
     refine zap (by decide) zcq rfl ?_
     refine zap (by decide) zdb rfl ?_
     refine zaK (v:=.i x.Stand.Place) 3 hS (by decide) rfl rfl (.st hS0 3 rfl (by omega)) (po zaf zal) ?_
     refine zbf (cs:=[.i x.Stand.Place,.i 1]) (by decide) zc9 zg6 rfl ?_
     refine zbg (es:=[[.i (-1)]]) hS (by decide) zaP zdp rfl zcZ rfl (by decide) (by omega) fun H hS=>?_
     obtain ⟨rr,hrr,hSA⟩:=zaj hSA
     refine zaO (bs:=[.agg (Wheel.cells b.Box.Wheel),.agg [.i x.Stand.Place,.i 1],.sl (.id (g1+3+5+3+2+10+9)) 1 (([-1]:List Int).map cI)]) (by decide) rfl rfl ((zla hrr).le (.k (.k (.cons (.sl _ _ _) .nil)))) ?_
     refine Om (.tup [.agg (Stand.cells rr.1),.i rr.2.1,.i rr.2.2]) ?_
     refine Ox (.agg (Stand.cells rr.1)) ?_
     refine Ox (.i rr.2.1) ?_
     refine Ox (.i rr.2.2) ?_
     refine za4 hS (by decide) zc9 (by omega) fun H hS=>?_
     refine zaC (v:=.agg (Stand.cells rr.1)) (ns:=(Stand.cells rr.1)) (L':=[(g1+3+5+3+2+10+15,.cells (Stand.cells rr.1)),(g1+3+5+3+2+10+9,.row 3 1),quB PointT_.cells q preX xs,(g+0,.cells (Bag_.cells al)),(g+2+5,.cells [.mp (g+2+0)]),(g1+3+3,.cells (PointT_.cells x)),(g+2+7+2,.cells [quV 7 q preX xs]),(g+2+0,.obj none (zag (mpw zad zan S1)))]) 0 hS rfl rfl (.behind (by kernel_rfl)) rfl rfl zfm nlb rfl fun H hS=>?_
     refine Oa (.i rr.2.1) ?_
     refine Oa (.i rr.2.2) ?_
     refine Ni ?_
     replace hS:=hS.keep (L':=[(g1+3+5+3+2+10+15,.cells (Stand.cells rr.1)),quB PointT_.cells q preX xs,(g+0,.cells (Bag_.cells al)),(g+2+5,.cells [.mp (g+2+0)]),(g1+3+3,.cells (PointT_.cells x)),(g+2+7+2,.cells [quV 7 q preX xs]),(g+2+0,.obj none (zag (mpw zad zan S1)))]) [true,false,true,true,true,true,true,true] rfl
     refine zaW (L':=[quB PointT_.cells q preX xs,(g+0,.cells (Bag_.cells al)),(g+2+5,.cells [.mp (g+2+0)]),(g1+3+3,.cells (PointT_.cells x)),(g+2+7+2,.cells [quV 7 q preX xs]),(g+2+0,.obj none (zag (mpw zad zan S1)))]) 0 9 hS rfl rfl rfl fun H hS=>?_
     refine Ws ?_
     refine Rg 14 ?_
     refine Om (.fn (.func 60) [] [.ptr (g+0) 0,.ptr (g+2+5) 0,.ptr (g1+3+3) 0,.ptr (g+2+7+2) 0]) ?_
     refine Of ((Stand.cells rr.1)) zdb ?_
     refine Olp (.i rr.1.Place) zaf zal ?_
     refine zap (by decide) zcq rfl ?_
     refine zap (by decide) zcp rfl ?_
     refine zaK (v:=.i x.Stand.Credit) 3 hS (by decide) rfl rfl .no (po zaf zal) ?_
     refine Oi (.i (w64 (x.Stand.Credit-1))) ?_
     refine zbf (cs:=[.i rr.1.Place,.i (w64 (x.Stand.Credit-1))]) (by decide) zc9 zg6 rfl ?_
     refine zap (by decide) ze1 rfl ?_
     refine zaK (v:=.agg (Bag_.cells x.in_)) 3 hS (by decide) rfl rfl .no (pg zdX) ?_
     refine zap (by decide) zhU rfl ?_
     refine zaK (v:=.i x.bought) 3 hS (by decide) rfl rfl .no (po zaf zal) ?_
     refine zbf (cs:=[.i rr.1.Place,.i (w64 (x.Stand.Credit-1)),.i x.in_.c0,.i x.in_.c1,.i x.in_.c2,.i x.in_.c3,.i x.bought]) (by decide) zew zkc rfl ?_
     refine zpy (M:=zmU al x (g+0) (g+2+5) (g1+3+3) (g+2+7+2) (g+2+0) q preX (S1,xs)) (L:=[]) (.inl rfl) hS (by decide) rfl rfl (zfp hSA hpre1 (show (ids (zmU al x (g+0) (g+2+5) (g1+3+3) (g+2+7+2) (g+2+0) q preX (S1,xs))).Nodup from hS.nd)) (by omega) ?_
     rintro v M' H g2 ⟨q2,pre2,rfl,rfl,hq2,hpr2⟩ hg2 hS
     have hpre2:∀c,c∈pre2->Go.AM.Pure c:=by rcases hpr2 with rfl | rfl;exact hpre1;exact fun c hc=>by simp at hc
     refine Ni ?_
     exact zai (SA,q2,pre2) (.k (.k (.k (.k (.k (.k .nil)))))) ⟨hS,hpre2,rfl⟩
    ·replace hSA:=ifF hSA hc2
     obtain rfl:=Option.some.inj hSA
     refine Cf hc2 ?_
     refine zay ?_
     exact zai ((S1,xs),q,preX) (.k (.k (.k (.k (.k (.k .nil)))))) ⟨hS.up (by omega),hpre1,rfl⟩
   ·replace hSA:=ifF hSA hc1
    obtain rfl:=Option.some.inj hSA
    refine On (want:=true) hc1 ?_
    refine On (want:=true) hc1 ?_
    refine On (want:=true) hc1 ?_
    refine On (want:=true) hc1 ?_
    refine Pf (.b false) hc1 ?_
    refine Ni ?_
    refine Ws ?_
    refine zeV (e:=false) rfl rfl ?_
    refine zay ?_
    exact zai ((S1,xs),q,preX) (.k (.k (.k (.k (.k (.k .nil)))))) ⟨hS.up (by omega),hpre1,rfl⟩
  rintro ⟨SC,q,pre⟩ H g2 ⟨hS,hpre,rfl⟩
  replace hpre:∀c,c∈pre->Go.AM.Pure c:=hpre
  change wpA _ _ _ _ (Fr.of [(0,pA Box_.cells a0),(3,.ptr (g+0) 0),(5,.ptr (g+2+5) 0),(6,.ptr (g+2+7+2) 0),(7,.ptr (g1+3+3) 0),(8,.fn (.func 60) [] [.ptr (g+0) 0,.ptr (g+2+5) 0,.ptr (g1+3+3) 0,.ptr (g+2+7+2) 0])]) _ _
  replace hS:St (·<g) H0 [quB PointT_.cells q pre SC.2,(g+0,.cells (Bag_.cells al)),(g+2+5,.cells [.mp (g+2+0)]),(g1+3+3,.cells (PointT_.cells x)),(g+2+7+2,.cells [quV 7 q pre SC.2]),(g+2+0,.obj none (zag (mpw zad zan SC.1)))] H g2:=hS
  refine Sq ?_
  refine Rg 8 ?_
  refine Om (pA Box_.cells a0) ?_
  refine zh2 (f:=Box_.cells) (p:=a0) (u:=b) (by decide) rfl hb0 ?_
  refine Of ((Box.cells b.Box)) zeg ?_
  refine Of ((Box.cells b.Box)) zfY ?_
  refine Of ((Box.cells b.Box)) zcE ?_
  refine Olp (.sl .no 1 (b.Box.Wheel.Coins.map cI)) zaI zaU ?_
  refine zb9 (n:=b.Box.Wheel.Coins.length) (by decide) rfl (List.length_map _) zaQ ?_
  refine Om (.i 0) ?_
  refine Ni ?_
  refine Ws ?_
  refine zaB ?_
  refine zco (V:=Int×ziO×Nat×List AV) (fun v=>[(0,pA Box_.cells a0),(3,.ptr (g+0) 0),(5,.ptr (g+2+5) 0),(6,.ptr (g+2+7+2) 0),(7,.ptr (g1+3+3) 0),(8,.fn (.func 60) [] [.ptr (g+0) 0,.ptr (g+2+5) 0,.ptr (g1+3+3) 0,.ptr (g+2+7+2) 0]),(77,.i (b.Box.Wheel.Coins.length:Int)),(78,.i v.1)]) (fun v k H' g'=>St (·<g) H0 [quB PointT_.cells v.2.2.1 v.2.2.2 v.2.1.2,(g+0,.cells (Bag_.cells al)),(g+2+5,.cells [.mp (g+2+0)]),(g1+3+3,.cells (PointT_.cells x)),(g+2+7+2,.cells [quV 7 v.2.2.1 v.2.2.2 v.2.1.2]),(g+2+0,.obj none (zag (mpw zad zan v.2.1.1)))] H' g'/\(∀c,c∈v.2.2.2->Go.AM.Pure c)/\zbu n b al x k v.1 v.2.1=some SB) (n:=n) (0,SC,q,pre) (.k (.k (.k (.k (.k (.k (.k (.k .nil)))))))) ⟨hS.up (by omega),hpre,hSB⟩ ?_
  rintro ⟨k,SC,q,pre⟩ m3 H g3 ⟨hS,hpre,hSB⟩
  obtain _ | m3:=m3
  ·exact nomatch (show none=some _ from hSB)
  replace hpre:∀c,c∈pre->Go.AM.Pure c:=hpre
  change wpA _ _ _ _ (Fr.of [(0,pA Box_.cells a0),(3,.ptr (g+0) 0),(5,.ptr (g+2+5) 0),(6,.ptr (g+2+7+2) 0),(7,.ptr (g1+3+3) 0),(8,.fn (.func 60) [] [.ptr (g+0) 0,.ptr (g+2+5) 0,.ptr (g1+3+3) 0,.ptr (g+2+7+2) 0]),(77,.i (b.Box.Wheel.Coins.length:Int)),(78,.i k)]) _ _
  replace hS:St (·<g) H0 [quB PointT_.cells q pre SC.2,(g+0,.cells (Bag_.cells al)),(g+2+5,.cells [.mp (g+2+0)]),(g1+3+3,.cells (PointT_.cells x)),(g+2+7+2,.cells [quV 7 q pre SC.2]),(g+2+0,.obj none (zag (mpw zad zan SC.1)))] H g3:=hS
  unfold zbu at hSB
  refine Sq ?_
  refine Rg 1 ?_
  refine Oi (.b (decide (k<(b.Box.Wheel.Coins.length:Int)))) ?_
  refine Ni ?_
  refine Ws ?_
  refine Sq ?_
  rcases bft (decide (k<(b.Box.Wheel.Coins.length:Int))) with hk1 | hk1
  rotate_left
  ·replace hSB:=ifF hSB hk1
   obtain rfl:=Option.some.inj hSB
   refine Cf hk1 ?_
   refine zb1 ?_
   refine zav ?_
   refine zau ?_
   refine zaD ?_
   refine zas ?_
   exact zbo (SC,q,pre) (Nat.lt_succ_self _) (.k (.k (.k (.k .nil)))) ⟨(hS.keep (L':=[quB PointT_.cells q pre SC.2,(g+0,.cells (Bag_.cells al)),(g+2+5,.cells [.mp (g+2+0)]),(g+2+7+2,.cells [quV 7 q pre SC.2]),(g+2+0,.obj none (zag (mpw zad zan SC.1)))]) [true,true,true,false,true,true] rfl).up (by omega),hpre,hM⟩
  replace hSB:=ifT hSB hk1
  refine Ct hk1 ?_
  refine zay ?_
  refine Ws ?_
  obtain ⟨e1,he1,hSB⟩:=zaj hSB
  obtain ⟨e2,he2,hSB⟩:=zaj hSB
  refine zaY (J:=ziO×Nat×List AV) (fun j=>[(0,pA Box_.cells a0),(3,.ptr (g+0) 0),(5,.ptr (g+2+5) 0),(6,.ptr (g+2+7+2) 0),(7,.ptr (g1+3+3) 0),(8,.fn (.func 60) [] [.ptr (g+0) 0,.ptr (g+2+5) 0,.ptr (g1+3+3) 0,.ptr (g+2+7+2) 0]),(77,.i (b.Box.Wheel.Coins.length:Int)),(78,.i k)]) (fun j H' g'=>St (·<g) H0 [quB PointT_.cells j.2.1 j.2.2 j.1.2,(g+0,.cells (Bag_.cells al)),(g+2+5,.cells [.mp (g+2+0)]),(g1+3+3,.cells (PointT_.cells x)),(g+2+7+2,.cells [quV 7 j.2.1 j.2.2 j.1.2]),(g+2+0,.obj none (zag (mpw zad zan j.1.1)))] H' g'/\(∀c,c∈j.2.2->Go.AM.Pure c)/\zbu n b al x m3 (w64 (k+1)) j.1=some SB) ?_ ?_
  ·rintro ⟨SD,q4,pre4⟩ H g4 ⟨hS,hpre4,hSB⟩
   change wpA _ _ _ _ (Fr.of [(0,pA Box_.cells a0),(3,.ptr (g+0) 0),(5,.ptr (g+2+5) 0),(6,.ptr (g+2+7+2) 0),(7,.ptr (g1+3+3) 0),(8,.fn (.func 60) [] [.ptr (g+0) 0,.ptr (g+2+5) 0,.ptr (g1+3+3) 0,.ptr (g+2+7+2) 0]),(77,.i (b.Box.Wheel.Coins.length:Int)),(78,.i k)]) _ _
   refine Rg 2 ?_
   refine Oi (.i (w64 (k+1))) ?_
   refine Om (.i (w64 (k+1))) ?_
   refine Ni ?_
   exact zbo (w64 (k+1),SD,q4,pre4) (Nat.lt_succ_self _) (.k (.k (.k (.k (.k (.k (.k (.k .nil)))))))) ⟨hS.up (by omega),hpre4,hSB⟩
  refine zaB ?_
  refine Sq ?_
  refine Rg 2 ?_
  refine Om (.i k) ?_
  refine Oa (.i k) ?_
  refine Ni ?_
  refine Ws ?_
  refine Sq ?_
  refine Sq ?_
  have hS0:=hS
  refine zc4 (n:=8) rfl (by kernel_rfl) ?_
  refine Om (.i k) ?_
  refine zap (by decide) ze1 rfl ?_
  refine ze5 (z:=k) (by decide) rfl rfl zfW (zeO he1) ?_
  refine zkE (xs:=([x.in_.c0,x.in_.c1,x.in_.c2,x.in_.c3]:List Int)) (z:=k) (u:=e1) (off:=0+2) 3 hS (by decide) rfl rfl (.st hS0 3 rfl (by omega)) rfl he1 zaf zal ?_
  refine Om (.i k) ?_
  refine ze5 (z:=k) (by decide) rfl rfl zfW (zeO he2) ?_
  refine zkE (xs:=([al.c0,al.c1,al.c2,al.c3]:List Int)) (z:=k) (u:=e2) (off:=0) 1 hS (by decide) rfl rfl (.st hS0 1 rfl (by omega)) rfl he2 zaf zal ?_
  refine Oi (.b (e1==e2)) ?_
  refine Ni ?_
  refine Ws ?_
  rcases bft (e1==e2) with he | he
  ·replace hSB:=ifT hSB he
   refine Ct he ?_
   refine zb1 ?_
   refine zav ?_
   refine zaD ?_
   exact zai (SC,q,pre) (.k (.k (.k (.k (.k (.k (.k (.k .nil)))))))) ⟨hS.up (by omega),hpre,hSB⟩
  replace hSB:=ifF hSB he
  refine Cf he ?_
  refine zay ?_
  refine Ws ?_
  obtain ⟨rr,hrr,hSB⟩:=zaj hSB
  obtain ⟨u,hu,hSB⟩:=zaj hSB
  obtain ⟨SD,hSD,hSB⟩:=zaj hSB
  refine Sq ?_
  have hS0:=hS
  refine zc4 (n:=20) rfl (by kernel_rfl) ?_
  refine Om (pA Box_.cells a0) ?_
  refine zh2 (f:=Box_.cells) (p:=a0) (u:=b) (by decide) rfl hb0 ?_
  refine Of ((Box.cells b.Box)) zeg ?_
  refine Of ((Box.cells b.Box)) zfY ?_
  refine Olg (.agg (Wheel.cells b.Box.Wheel)) zdq ?_
  refine zap (by decide) zcq rfl ?_
  refine zap (by decide) zdb rfl ?_
  refine zaK (v:=.i x.Stand.Place) 3 hS (by decide) rfl rfl (.st hS0 3 rfl (by omega)) (po zaf zal) ?_
  refine zbf (cs:=[.i x.Stand.Place,.i 0]) (by decide) zc9 zg6 rfl ?_
  refine Om (.i k) ?_
  refine zbg (es:=[[.i k]]) hS (by decide) zaP zdp rfl zcZ rfl (by decide) (by omega) fun H hS=>?_
  refine zaO (bs:=[.agg (Wheel.cells b.Box.Wheel),.agg [.i x.Stand.Place,.i 0],.sl (.id (g3+1+2+8+10)) 1 (([k]:List Int).map cI)]) (by decide) rfl rfl ((zla hrr).le (.k (.k (.cons (.sl _ _ _) .nil)))) ?_
  refine Om (.tup [.agg (Stand.cells rr.1),.i rr.2.1,.i rr.2.2]) ?_
  refine Ox (.agg (Stand.cells rr.1)) ?_
  refine Ox (.i rr.2.1) ?_
  refine Ox (.i rr.2.2) ?_
  refine za4 hS (by decide) zc9 (by omega) fun H hS=>?_
  refine zaC (v:=.agg (Stand.cells rr.1)) (ns:=(Stand.cells rr.1)) (L':=[(g3+1+2+8+16,.cells (Stand.cells rr.1)),(g3+1+2+8+10,.row 3 1),quB PointT_.cells q pre SC.2,(g+0,.cells (Bag_.cells al)),(g+2+5,.cells [.mp (g+2+0)]),(g1+3+3,.cells (PointT_.cells x)),(g+2+7+2,.cells [quV 7 q pre SC.2]),(g+2+0,.obj none (zag (mpw zad zan SC.1)))]) 0 hS rfl rfl (.behind (by kernel_rfl)) rfl rfl zfm nlb rfl fun H hS=>?_
  refine Oa (.i rr.2.1) ?_
  refine Oa (.i rr.2.2) ?_
  refine Ni ?_
  replace hS:=hS.keep (L':=[(g3+1+2+8+16,.cells (Stand.cells rr.1)),quB PointT_.cells q pre SC.2,(g+0,.cells (Bag_.cells al)),(g+2+5,.cells [.mp (g+2+0)]),(g1+3+3,.cells (PointT_.cells x)),(g+2+7+2,.cells [quV 7 q pre SC.2]),(g+2+0,.obj none (zag (mpw zad zan SC.1)))]) [true,false,true,true,true,true,true,true] rfl
  refine zaW (L':=[quB PointT_.cells q pre SC.2,(g+0,.cells (Bag_.cells al)),(g+2+5,.cells [.mp (g+2+0)]),(g1+3+3,.cells (PointT_.cells x)),(g+2+7+2,.cells [quV 7 q pre SC.2]),(g+2+0,.obj none (zag (mpw zad zan SC.1)))]) 0 13 hS rfl rfl rfl fun H hS=>?_
  refine Ws ?_
  refine Sq ?_
  refine Rg 19 ?_
  refine Of ((Stand.cells rr.1)) zdb ?_
  refine Olp (.i rr.1.Place) zaf zal ?_
  refine zap (by decide) zcq rfl ?_
  refine zap (by decide) zcp rfl ?_
  refine zaK (v:=.i x.Stand.Credit) 3 hS (by decide) rfl rfl .no (po zaf zal) ?_
  refine Of ((Stand.cells rr.1)) zcp ?_
  refine Olp (.i rr.1.Credit) zaf zal ?_
  refine Oi (.i (w64 (x.Stand.Credit+rr.1.Credit))) ?_
  refine zbf (cs:=[.i rr.1.Place,.i (w64 (x.Stand.Credit+rr.1.Credit))]) (by decide) zc9 zg6 rfl ?_
  refine zap (by decide) ze1 rfl ?_
  refine zaK (v:=.agg (Bag_.cells x.in_)) 3 hS (by decide) rfl rfl .no (pg zdX) ?_
  refine zap (by decide) zhU rfl ?_
  refine zaK (v:=.i x.bought) 3 hS (by decide) rfl rfl .no (po zaf zal) ?_
  refine Of ((Stand.cells rr.1)) zcp ?_
  refine Olp (.i rr.1.Credit) zaf zal ?_
  refine Oi (.i (w64 (x.bought+rr.1.Credit))) ?_
  refine zbf (cs:=[.i rr.1.Place,.i (w64 (x.Stand.Credit+rr.1.Credit)),.i x.in_.c0,.i x.in_.c1,.i x.in_.c2,.i x.in_.c3,.i (w64 (x.bought+rr.1.Credit))]) (by decide) zew zkc rfl ?_
  refine za4 hS (by decide) zew (by omega) fun H hS=>?_
  refine zaC (v:=.agg [.i rr.1.Place,.i (w64 (x.Stand.Credit+rr.1.Credit)),.i x.in_.c0,.i x.in_.c1,.i x.in_.c2,.i x.in_.c3,.i (w64 (x.bought+rr.1.Credit))]) (ns:=[.i rr.1.Place,.i (w64 (x.Stand.Credit+rr.1.Credit)),.i x.in_.c0,.i x.in_.c1,.i x.in_.c2,.i x.in_.c3,.i (w64 (x.bought+rr.1.Credit))]) (L':=[(g3+1+2+8+20+17,.cells [.i rr.1.Place,.i (w64 (x.Stand.Credit+rr.1.Credit)),.i x.in_.c0,.i x.in_.c1,.i x.in_.c2,.i x.in_.c3,.i (w64 (x.bought+rr.1.Credit))]),quB PointT_.cells q pre SC.2,(g+0,.cells (Bag_.cells al)),(g+2+5,.cells [.mp (g+2+0)]),(g1+3+3,.cells (PointT_.cells x)),(g+2+7+2,.cells [quV 7 q pre SC.2]),(g+2+0,.obj none (zag (mpw zad zan SC.1)))]) 0 hS rfl rfl .no rfl rfl ziW nlb rfl fun H hS=>?_
  refine Ni ?_
  refine Ws ?_
  refine Sq ?_
  refine Rg 8 ?_
  refine Om (.i k) ?_
  refine zap (by decide) ze1 rfl ?_
  refine ze5 (z:=k) (by decide) rfl rfl zfW (zeO he1) ?_
  refine zkE (xs:=([x.in_.c0,x.in_.c1,x.in_.c2,x.in_.c3]:List Int)) (z:=k) (u:=e1) (off:=0+2) 0 hS (by decide) rfl rfl .no rfl he1 zaf zal ?_
  refine Oi (.i (w64 (e1+1))) ?_
  refine zap (by decide) ze1 rfl ?_
  refine ze5 (z:=k) (by decide) rfl rfl zfW (zeO he1) ?_
  refine ziF (xs:=([x.in_.c0,x.in_.c1,x.in_.c2,x.in_.c3]:List Int)) (u:=u) (z:=k) (v:=(w64 (e1+1))) (off:=0+2) (cs':=[.i rr.1.Place,.i (w64 (x.Stand.Credit+rr.1.Credit)),.i (u.getD 0 0),.i (u.getD 1 0),.i (u.getD 2 0),.i (u.getD 3 0),.i (w64 (x.bought+rr.1.Credit))]) (L':=[(g3+1+2+8+20+17,.cells [.i rr.1.Place,.i (w64 (x.Stand.Credit+rr.1.Credit)),.i (u.getD 0 0),.i (u.getD 1 0),.i (u.getD 2 0),.i (u.getD 3 0),.i (w64 (x.bought+rr.1.Credit))]),quB PointT_.cells q pre SC.2,(g+0,.cells (Bag_.cells al)),(g+2+5,.cells [.mp (g+2+0)]),(g1+3+3,.cells (PointT_.cells x)),(g+2+7+2,.cells [quV 7 q pre SC.2]),(g+2+0,.obj none (zag (mpw zad zan SC.1)))]) 0 hS rfl rfl .no rfl rfl hu zdV rfl rfl fun H hS=>?_
  refine Ni ?_
  replace hS:=hS.perm (L':=[quB PointT_.cells q pre SC.2,(g+0,.cells (Bag_.cells al)),(g+2+5,.cells [.mp (g+2+0)]),(g1+3+3,.cells (PointT_.cells x)),(g+2+7+2,.cells [quV 7 q pre SC.2]),(g+2+0,.obj none (zag (mpw zad zan SC.1))),(g3+1+2+8+20+17,.cells [.i rr.1.Place,.i (w64 (x.Stand.Credit+rr.1.Credit)),.i (u.getD 0 0),.i (u.getD 1 0),.i (u.getD 2 0),.i (u.getD 3 0),.i (w64 (x.bought+rr.1.Credit))])]) (List.perm_append_comm (l₁:=[_,_,_,_,_,_]) (l₂:=[_]))
  refine Ws ?_
  refine Rg 4 ?_
  refine Om (.fn (.func 60) [] [.ptr (g+0) 0,.ptr (g+2+5) 0,.ptr (g1+3+3) 0,.ptr (g+2+7+2) 0]) ?_
  refine Om (.i k) ?_
  refine zaK (v:=.agg [.i rr.1.Place,.i (w64 (x.Stand.Credit+rr.1.Credit)),.i (u.getD 0 0),.i (u.getD 1 0),.i (u.getD 2 0),.i (u.getD 3 0),.i (w64 (x.bought+rr.1.Credit))]) 6 hS (by decide) rfl rfl .no (pg zfn) ?_
  refine zpy (M:=zmU al x (g+0) (g+2+5) (g1+3+3) (g+2+7+2) (g+2+0) q pre SC) (L:=[(g3+1+2+8+20+17,.cells [.i rr.1.Place,.i (w64 (x.Stand.Credit+rr.1.Credit)),.i (u.getD 0 0),.i (u.getD 1 0),.i (u.getD 2 0),.i (u.getD 3 0),.i (w64 (x.bought+rr.1.Credit))])]) (.inl rfl) hS (by decide) rfl rfl (zfp hSD hpre (show (ids (zmU al x (g+0) (g+2+5) (g1+3+3) (g+2+7+2) (g+2+0) q pre SC)).Nodup from (hS.keep (L':=zmU al x (g+0) (g+2+5) (g1+3+3) (g+2+7+2) (g+2+0) q pre SC) [true,true,true,true,true,true,false] rfl).nd)) (by omega) ?_
  rintro v M' H g4 ⟨q4,pre4,rfl,rfl,hq4,hpr4⟩ hg4 hS
  have hpre4:∀c,c∈pre4->Go.AM.Pure c:=by rcases hpr4 with rfl | rfl;exact hpre;exact fun c hc=>by simp at hc
  refine Ni ?_
  refine zas ?_
  exact zai (SD,q4,pre4) (.k (.k (.k (.k (.k (.k (.k (.k .nil)))))))) ⟨hS.keep (L':=zmU al x (g+0) (g+2+5) (g1+3+3) (g+2+7+2) (g+2+0) q4 pre4 SD) [true,true,true,true,true,true,false] rfl,hpre4,hSB⟩
def zqT (xs ys:List Int) (i:Nat):Prop:=ys.length=xs.length/\∀k,k<xs.length->ys[k]?=if k<i\/xs.length<=k+i then xs[xs.length-1-k]? else xs[k]?
theorem zsC (xs:List Int):zqT xs xs 0:=⟨rfl,fun k hk=>by rw [if_neg (by omega)]⟩
theorem zvx {xs ys:List Int} {i:Nat} (h:zqT xs ys i) (hi:xs.length<=2*i+1):ys=xs.reverse:=by
 apply List.ext_getElem?
 intro k
 by_cases hk:k<xs.length
 ·rw [h.2 k hk,List.getElem?_reverse hk]
  split
  ·rfl
  ·congr 1
   omega
 ·rw [List.getElem?_eq_none (by rw [h.1];omega),List.getElem?_eq_none (by rw [List.length_reverse];omega)]
theorem zt7 {xs ys:List Int} {i:Nat} (h:zqT xs ys i) (hi:2*i+1<xs.length) {a b:Int} (ha:ys[xs.length-1-i]?=some a) (hb:ys[i]?=some b):zqT xs ((ys.set i a).set (xs.length-1-i) b) (i+1):=by
 have ha2:=h.2 (xs.length-1-i) (by omega)
 rw [if_neg (by omega)] at ha2
 have hb2:=h.2 i (by omega)
 rw [if_neg (by omega)] at hb2
 refine ⟨by simp [h.1],fun k hk=>?_⟩
 by_cases h1:k=xs.length-1-i
 ·subst h1
  rw [List.getElem?_set_self (by simp [h.1];omega),if_pos (by omega),←hb,hb2]
  congr 1
  omega
 ·rw [List.getElem?_set_ne (fun e=>h1 e.symm)]
  by_cases h2:k=i
  ·subst h2
   rw [List.getElem?_set_self (by rw [h.1];omega),if_pos (by omega),←ha,ha2]
  ·rw [List.getElem?_set_ne (fun e=>h2 e.symm),h.2 k hk]
   by_cases h3:k<i\/xs.length<=k+i
   ·rw [if_pos h3,if_pos (by omega)]
   ·rw [if_neg h3,if_neg (by omega)]
theorem zhX {xs:List Int} {j:Nat} (hx:xs≠[]) (hl:xs.length<=1048576):zfN Try.prog 59 [.ms j 0 1 xs.length xs.length] j (xs.map cI).flatten (.tup []) (xs.reverse.map cI).flatten:=by
 refine zqz mixed Try.func59 rfl (by decide) Try.ntmps59 (by simp) (fun H _=>.tup _ fun c hc=>by simp at hc) (zrS (fun x=>(zab (.v _) zaJ)) _) fun H0 g hf hp=>?_
 rw [zah]
 have hn0:xs.length≠0:=fun e=>hx (List.length_eq_zero_iff.1 e)
 have hms:AV.ms j 0 1 xs.length xs.length=msn j 1 xs.length:=by unfold msn;rw [if_neg hn0]
 rw [hms]
 have hTn:∀ys:List Int,ys.length=xs.length->zfT j xs.length (ys.map cI)=[(j,.cells (ys.map cI).flatten)]:=fun ys hy=>by
  unfold zfT zfx
  rw [if_pos (by rw [List.length_map];exact hy),if_neg (fun e=>by rw [List.map_eq_nil_iff] at e;subst e;exact hn0 hy.symm)]
 change wpA _ _ _ _ (Fr.of [(0,msn j 1 xs.length)]) H0 g
 have hS:=St.startP hf hp
 replace hS:St (fun i=>i<g/\i≠j) H0 ([]++zfT j xs.length (xs.map cI)) H0 g:=by rw [List.nil_append,hTn xs rfl];exact hS
 refine Sq ?_
 refine Rg 5 ?_
 refine Om (msn j 1 xs.length) ?_
 refine zwn (by decide) rfl zaQ ?_
 refine zmp (v:=.i ((xs.length:Int)-1)) (by decide) rfl rfl (by show some (AV.i (w64 ((xs.length:Int)-1)))=_;rw [zaT (by omega) (by omega)]) ?_
 refine Oa (.i 0) ?_
 refine Oa (.i ((xs.length:Int)-1)) ?_
 refine Ni ?_
 refine Ws ?_
 refine zaB ?_
 refine zco (V:=Nat×List Int) (fun v=>[(0,msn j 1 xs.length),(2,.i (v.1:Int)),(3,.i ((xs.length:Int)-1-(v.1:Int)))]) (fun v k H' g'=>St (fun i=>i<g/\i≠j) H0 ([]++zfT j xs.length (v.2.map cI)) H' g'/\zqT xs v.2 v.1/\k=xs.length-v.1) (n:=xs.length) (0,xs) (.k (.k (.cons (by show Le _ (AV.i ((xs.length:Int)-1));rw [show ((xs.length:Int)-1-((0:Nat):Int))=(xs.length:Int)-1 by omega];exact .refl _) .nil))) ⟨hS.up (by omega),zsC xs,by omega⟩ ?_
 rintro ⟨p,ys⟩ k H g1 ⟨hS,hR,hk⟩
 change wpA _ _ _ _ (Fr.of [(0,msn j 1 xs.length),(2,.i (p:Int)),(3,.i ((xs.length:Int)-1-(p:Int)))]) _ _
 replace hS:St (fun i=>i<g/\i≠j) H0 ([]++zfT j xs.length (ys.map cI)) H g1:=hS
 replace hR:zqT xs ys p:=hR
 replace hk:k=xs.length-p:=hk
 refine Sq ?_
 refine Sq ?_
 refine Rg 3 ?_
 refine Om (.i (p:Int)) ?_
 refine Om (.i ((xs.length:Int)-1-(p:Int))) ?_
 refine Oi (.b (decide ((p:Int)<(xs.length:Int)-1-(p:Int)))) ?_
 refine Ni ?_
 refine Ws ?_
 rcases bft (decide ((p:Int)<(xs.length:Int)-1-(p:Int))) with hb | hb
 rotate_left
 ·refine Cf hb ?_
  refine zb1 ?_
  refine zav ?_
  refine zau ?_
  refine zaD ?_
  have hb:=of_decide_eq_false hb
  obtain rfl:=zvx hR (by omega)
  refine ⟨.inl rfl,⟨_,rfl,.refl _⟩,fun i hi=>(hS.old i hi).2,?_⟩
  rw [List.nil_append,hTn _ (List.length_reverse)] at hS
  exact hS.get (n:=0) rfl
 have hb2:=of_decide_eq_true hb
 have hlt:2*p+1<xs.length:=by omega
 obtain ⟨a,ha⟩:∃a,ys[xs.length-1-p]?=some a:=⟨_,List.getElem?_eq_getElem (by rw [hR.1];omega)⟩
 obtain ⟨c,hc⟩:∃c,ys[p]?=some c:=⟨_,List.getElem?_eq_getElem (by rw [hR.1];omega)⟩
 have ez:((xs.length:Int)-1-(p:Int)).toNat=xs.length-1-p:=by omega
 have hia:idx ys ((xs.length:Int)-1-(p:Int))=some a:=by unfold idx;rw [if_pos (by omega),ez];exact ha
 have hic:idx ys (p:Int)=some c:=by unfold idx;rw [if_pos (by omega)];exact hc
 refine Ct hb ?_
 refine zay ?_
 refine Ws ?_
 refine Sq ?_
 refine zaB ?_
 have hS0:=hS
 refine zc4 (n:=16) rfl (by kernel_rfl) ?_
 refine Om (msn j 1 xs.length) ?_
 refine Om (.i (p:Int)) ?_
 refine Om (msn j 1 xs.length) ?_
 refine Om (.i ((xs.length:Int)-1-(p:Int))) ?_
 refine Om (msn j 1 xs.length) ?_
 refine Om (.i ((xs.length:Int)-1-(p:Int))) ?_
 refine zj3 (xs:=ys) (f:=cI) (z:=((xs.length:Int)-1-(p:Int))) (u:=a) hS (by decide) rfl rfl zaP hia ?_
 refine zrR (xs:=ys) (z:=((xs.length:Int)-1-(p:Int))) (u:=a) hS (by decide) rfl hia (.tl hS0 hia (by omega)) zaf zal ?_
 refine Om (msn j 1 xs.length) ?_
 refine Om (.i (p:Int)) ?_
 refine zj3 (xs:=ys) (f:=cI) (z:=(p:Int)) (u:=c) hS (by decide) rfl rfl zaP hic ?_
 refine zrR (xs:=ys) (z:=(p:Int)) (u:=c) hS (by decide) rfl hic (.tl hS0 hic (by omega)) zaf zal ?_
 refine zj3 (xs:=ys) (f:=cI) (z:=(p:Int)) (u:=c) hS (by decide) rfl rfl zaP hic ?_
 refine zpq (xs:=ys) (z:=(p:Int)) (u:=c) (v:=a) hS rfl hic (.tl hS0 hic (by omega)) rfl zdV fun H hS=>?_
 have hia2:idx (ys.set (p:Int).toNat a) ((xs.length:Int)-1-(p:Int))=some a:=by
  unfold idx
  rw [if_pos (by omega),ez,Int.toNat_natCast,List.getElem?_set_ne (by omega)]
  exact ha
 refine zj3 (xs:=(ys.set (p:Int).toNat a)) (f:=cI) (z:=((xs.length:Int)-1-(p:Int))) (u:=a) hS (by decide) rfl rfl zaP hia2 ?_
 refine zpq (xs:=(ys.set (p:Int).toNat a)) (z:=((xs.length:Int)-1-(p:Int))) (u:=a) (v:=c) hS rfl hia2 (.tl hS0 hia (by omega)) rfl zdV fun H hS=>?_
 refine Ni ?_
 refine zas ?_
 refine Ws ?_
 refine Rg 6 ?_
 refine Om (.i (p:Int)) ?_
 refine zmp (v:=.i ((p+1:Nat):Int)) (by decide) rfl rfl (by show some (AV.i (w64 ((p:Int)+1)))=_;rw [zaT (by omega) (by omega)];rfl) ?_
 refine Om (.i ((xs.length:Int)-1-(p:Int))) ?_
 refine zmp (v:=.i ((xs.length:Int)-1-((p+1:Nat):Int))) (by decide) rfl rfl (by show some (AV.i (w64 ((xs.length:Int)-1-(p:Int)-1)))=_;rw [zaT (by omega) (by omega)];exact congrArg (fun z:Int=>some (AV.i z)) (by omega)) ?_
 refine Oa (.i ((p+1:Nat):Int)) ?_
 refine Oa (.i ((xs.length:Int)-1-((p+1:Nat):Int))) ?_
 refine Ni ?_
 refine zbo (p+1,(ys.set (p:Int).toNat a).set ((xs.length:Int)-1-(p:Int)).toNat c) (m:=xs.length-(p+1)) (by omega) (.k (.k (.k .nil))) ⟨hS.up (by omega),?_,rfl⟩
 rw [ez,Int.toNat_natCast]
 exact zt7 hR hlt ha hc
theorem zt8 (b:Option Box_):Go.AM.Pure (pA Box_.cells b):=zoJ (fun x=>zab (.v _) (zab (.sl _ _ (zaA (fun x=>(zab (.v _) zaJ)))) (zab (.sl _ _ (zaA (fun x=>(zab (.v _) zaJ)))) (zab (.sl _ _ (zaA (fun x=>(zab (.v _) zaJ)))) (zab (.sl _ _ (zaA (fun x=>(zab (.v _) zaJ)))) (zab (.sl _ _ (zaA (fun x=>(zab (.v _) zaJ)))) (zab (.v _) (zab (.v _) zaJ)))))))) b
theorem zqU {κ ν:Type} [DecidableEq κ] {ok:κ->Bool} {z:ν} {M M':List (κ×ν)} (h:M.Perm M') (k:κ):zgz ok z M k=zgz ok z M' k:=by
 have e:mok ok M k=mok ok M' k:=by
  unfold mok
  rw [Bool.eq_iff_iff]
  simp only [Bool.and_eq_true,List.all_eq_true,decide_eq_true_eq]
  rw [(h.map (·.1)).nodup_iff]
  simp only [h.mem_iff]
 unfold zgz
 rw [e]
 by_cases hk:mok ok M' k=true
 ·rw [if_pos hk,if_pos hk]
  have hn:(M.map (·.1)).Nodup:=by
   rw [←e] at hk
   exact of_decide_eq_true (Bool.and_eq_true_iff.1 hk).2
  rw [(zsA z h hn k).1]
 ·rw [if_neg hk,if_neg hk]
def zeK (j:Nat) (acts:List Int):AV:=if acts=[] then .sl .nil 0 [] else .ms j 0 1 acts.length acts.length
def zeL (j:Nat) (acts:List Int):BL:=if acts=[] then [] else [(j,.cells (acts.map cI).flatten)]
theorem zpK (acts:List Int):(acts.map cI).flatten.length=acts.length:=by rw [zhu,List.length_map]
theorem zoV {P:Program} {N:Nat} {l:List (Nat×AV)} {H:zaa} {g g0 i:Nat} {ops:Array Oper} {K:Fr->zaa->Nat->Prop} {r:List Oper} {d:Nat} {ty:TypeId} {pos:String} {after:Array Edge} {O:Nat->Prop} {H0:zaa} {L:BL} {b:Nat} {t:TypeId} {x y:Operand} {ja:Nat} {acts:List Int} {a:Int} (hS:St O H0 (zeL ja acts++L) H b) (hd:d<N) (hx:evL N l x=zeK ja acts) (hy:evL N l y=.sl .clip 1 [[.i a]]) (hk:zaF P t=some 1) (hf:za6 P t=true) (hle:acts.length+1<=1048576) (hb:b<=g0+i) (h:∀H',St O H0 (zeL (g0+i) (acts++[a])++L) H' (g0+i+1)->zaL P N none g0 ops K (i+1) r (Fr.of ((d,zeK (g0+i) (acts++[a]))::l)) H' g):zaL P N none g0 ops K i (⟨some d,.call { callee:=.builtin .append,args:=#[x,y],argTypes:=#[t,t] },ty,pos,after,none⟩::r) (Fr.of l) H g:=by
 have hsrc:zrb H 1 (evL N l y)=some (1,[.i a]):=by rw [hy];rfl
 by_cases hn:acts=[]
 ·subst hn
  refine zr1 (k:=1) (k':=0) (q:=1) (ds:=[.i a]) hS hd hx hsrc hk hf (by omega) (by omega) hb fun H' hS'=>?_
  exact h H' hS'
 ·have e1:zeL ja acts=[(ja,.cells (acts.map cI).flatten)]:=if_neg hn
  have e2:zeK ja acts=.ms ja 0 1 acts.length acts.length:=if_neg hn
  have hn2:acts++[a]≠[]:=by simp
  have hpos:0<acts.length:=List.length_pos_iff.2 hn
  rw [e1] at hS
  rw [e2] at hx
  refine zr0 (k:=1) (m:=acts.length) (q:=1) (ds:=[.i a]) hS hd hx (by rw [zpK];omega) hsrc hk hf hpos (by omega) hle hb fun H' hS'=>?_
  have e3:zeL (g0+i) (acts++[a])=[(g0+i,.cells ((acts.map cI).flatten++[.i a]))]:=by
   unfold zeL
   rw [if_neg hn2,List.map_append,List.flatten_append]
   rfl
  have e4:zeK (g0+i) (acts++[a])=.ms (g0+i) 0 1 (acts.length+1) (acts.length+1):=by
   unfold zeK
   rw [if_neg hn2,List.length_append,List.length_singleton]
  have:=h H'
  rw [e3,e4] at this
  exact this hS'
theorem zhY:zaR Try.prog 59 [.sl .nil 0 []] (.tup []):=by
 refine zaz mixed Try.func59 rfl (by decide) Try.ntmps59 (by simp) (.tup _ zaJ) fun H0 g hf=>?_
 rw [zah]
 change wpA _ _ _ _ (Fr.of [(0,.sl .nil 0 [])]) H0 g
 have hS:=St.start hf
 refine Sq ?_
 refine Rg 5 ?_
 refine Om (.sl .nil 0 []) ?_
 refine zb9 (n:=0) (by decide) rfl rfl zaQ ?_
 refine zmp (v:=.i (-1)) (by decide) rfl rfl (by show some (AV.i (w64 (((0:Nat):Int)-1)))=_;rw [zaT (by omega) (by omega)];rfl) ?_
 refine Oa (.i 0) ?_
 refine Oa (.i (-1)) ?_
 refine Ni ?_
 refine Ws ?_
 refine zaB ?_
 refine zco (V:=Unit) (fun _=>[(0,.sl .nil 0 []),(2,.i 0),(3,.i (-1))]) (fun _ _ H' g'=>St (·<g) H0 [] H' g') (n:=0) () (.k (.k (.k .nil))) (hS.up (by omega)) ?_
 rintro _ k H g1 hS
 change wpA _ _ _ _ (Fr.of [(0,.sl .nil 0 []),(2,.i 0),(3,.i (-1))]) _ _
 refine Sq ?_
 refine Sq ?_
 refine Rg 3 ?_
 refine Om (.i 0) ?_
 refine Om (.i (-1)) ?_
 refine Oi (.b (decide ((0:Int) < -1))) ?_
 refine Ni ?_
 refine Ws ?_
 refine zeV (e:=decide ((0:Int) < -1)) rfl (by decide) ?_
 refine zb1 ?_
 refine zav ?_
 refine zau ?_
 refine zaD ?_
 refine zbe (x:=.tup []) (f:=fun (_:Unit)=>.tup []) (u:=()) (.inl rfl) rfl (.refl _) rfl hS
theorem zt9 {N:Nat} {l:List (Nat×AV)} {H:zaa} {g g0 i:Nat} {ops:Array Oper} {K:Fr->zaa->Nat->Prop} {r:List Oper} {d:Nat} {ty:TypeId} {pos:String} {after:Array Edge} {O:Nat->Prop} {H0:zaa} {L:BL} {b:Nat} {f:Operand} {args:Array Operand} {ts:Array TypeId} {ja:Nat} {acts:List Int} (hS:St O H0 (zeL ja acts++L) H b) (hd:d<N) (ht:tgt (evL N l f)=some (59,[],[])) (ha:args.toList.map (evL N l)=[zeK ja acts]) (hle:acts.length<=1048576) (h:∀H',St O H0 (zeL ja acts.reverse++L) H' b->zaL Try.prog N none g0 ops K (i+1) r (Fr.of ((d,.tup [])::l)) H' g):zaL Try.prog N none g0 ops K i (⟨some d,.call { callee:=.value f,args:=args,argTypes:=ts },ty,pos,after,none⟩::r) (Fr.of l) H g:=by
 by_cases hn:acts=[]
 ·subst hn
  exact zaO hd ht (by rw [ha];rfl) zhY (h H hS)
 ·have e1:zeL ja acts=[(ja,.cells (acts.map cI).flatten)]:=if_neg hn
  have e2:zeK ja acts=.ms ja 0 1 acts.length acts.length:=if_neg hn
  have e3:zeL ja acts.reverse=[(ja,.cells (acts.reverse.map cI).flatten)]:=if_neg (by simpa using hn)
  rw [e1] at hS
  rw [e2] at ha
  rw [e3] at h
  exact zyg 0 hS hd ht (by rw [ha];rfl) rfl zwa (zhX hn hle) rfl h
end Go.Proofs.Ytchhkifidbkjcaa
