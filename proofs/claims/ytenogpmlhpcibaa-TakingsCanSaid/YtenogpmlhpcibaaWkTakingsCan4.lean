/-
  The code returns what the functions say (printed by gen.py).
  Conditions: none.
-/
import Derived.Test.YtenogpmlhpcibaaWkTakingsCan3
import Derived.Test.YtenogpmlhpcibaaSh
import Derived.Test.YtenogpmlhpcibaaKs
import Derived.Test.YtenogpmlhpcibaaEn
set_option linter.all false
namespace Go.Proofs.Ytenogpmlhpcibaa
open Go Go.AM Go.Law
set_option linter.unusedVariables false
set_option maxRecDepth 4000
set_option maxHeartbeats 4000000
theorem W_ref05_Short {n:Nat} {a0:Box} {r:Int×Int} (hM:ref05_Short n a0=some r):PureSat Try.prog 40 [.agg (Box.cells a0)] (.tup [.i r.1,.i r.2]):=by
 refine pure_of_wp mixed Try.func40 rfl (by decide) Try.ntmps40 (by simp) ?pure fun H0 g hf=>?_
 case pure=>exact .tup _ (pl_cons (.v _) (pl_cons (.v _) pl_nil))
 rw [frame0_of]
 change wpA _ _ _ _ (Fr.of [(0,.agg (Box.cells a0))]) H0 g
 have hS:=St.start hf
 refine Sq ?_
 refine Rg 3 ?_
 refine o_box (v:=.agg (Box.cells a0)) (cs:=(Box.cells a0)) hS (by decide) rfl rfl (by omega) fun H hS=>?_
 refine Oa (.i 0) ?_
 refine Oa (.i 0) ?_
 refine Ni ?_
 refine w_iceE (L':=[]) 0 1 hS rfl rfl rfl fun H hS=>?_
 refine Ws ?_
 refine Sq ?_
 refine Rg 7 ?_
 refine Olg (.agg (Box.cells a0)) ty_agg26 ?_
 obtain ⟨r1,hr1,hM⟩:=bindE hM
 refine o_call (bs:=[.agg (Box.cells a0)]) (by decide) rfl rfl ((W_ref05_Can hr1).le (.k .nil)) ?_
 refine Om (.tup [.sl .no 1 (r1.1.map cI),.i r1.2]) ?_
 refine Ox (.sl .no 1 (r1.1.map cI)) ?_
 refine Ox (.i r1.2) ?_
 refine Oa (.sl .no 1 (r1.1.map cI)) ?_
 refine Oa (.i r1.2) ?_
 refine Ni ?_
 refine Ws ?_
 refine Sq ?_
 refine Sq ?_
 refine Rg 2 ?_
 refine Om (.i r1.2) ?_
 refine Oi (.b (r1.2 != 0)) ?_
 refine Ni ?_
 refine Ws ?_
 rcases bft (r1.2 != 0) with hb2 | hb2
 ·replace hM:=ifT hM hb2
  refine Ct hb2 ?_
  refine Sq ?_
  refine Rg 3 ?_
  refine Om (.i r1.2) ?_
  refine Oa (.i 0) ?_
  refine Oa (.i r1.2) ?_
  refine Ni ?_
  refine Ws ?_
  refine r_ret ?_
  refine r_then_ret ?_
  refine w_end (x:=.tup [.i 0,.i r1.2]) (f:=fun r=>.tup [.i r.1,.i r.2]) (.inr rfl) ?_ (.refl _) (Option.some.inj hM) hS
  exact (res_two (res_tmp (x:=.i 0) rfl) (res_tmp (x:=.i r1.2) rfl))
 ·replace hM:=ifF hM hb2
  refine Cf hb2 ?_
  refine r_skip ?_
  refine Ws ?_
  refine Sq ?_
  have hS0:=hS
  refine r_draw (n:=12) rfl (by kernel_rfl) ?_
  refine Of ((Box.cells a0)) ty_fo26_4 ?_
  refine Olp (.i a0.Plays) ty_agg3 ty_sc3 ?_
  refine Om (.sl .no 1 (r1.1.map cI)) ?_
  refine Om (.sl .no 1 (r1.1.map cI)) ?_
  refine o_len (n:=r1.1.length) (by decide) rfl (List.length_map _) ty_isl22 ?_
  refine Oi (.i (w64 ((r1.1.length:Int)-1))) ?_
  obtain ⟨x3,hx3,hM⟩:=bindE hM
  refine o_index (xs:=r1.1) (f:=cI) (z:=(w64 ((r1.1.length:Int)-1))) (u:=x3) (by decide) rfl rfl ty_es22 hx3 ?_
  refine Olp (.i x3) ty_agg3 ty_sc3 ?_
  refine Oi (.i (w64 (a0.Plays-x3))) ?_
  refine o_max (v:=.i (max 0 (w64 (a0.Plays-x3)))) (by decide) rfl ?_
  refine Oa (.i (max 0 (w64 (a0.Plays-x3)))) ?_
  refine Oa (.i 0) ?_
  refine Ni ?_
  refine w_next [(2,.i (max 0 (w64 (a0.Plays-x3)))),(3,.i 0)] (.k (.k .nil)) ?_
  refine r_ret ?_
  refine w_end (x:=.tup [.i (max 0 (w64 (a0.Plays-x3))),.i 0]) (f:=fun r=>.tup [.i r.1,.i r.2]) (.inr rfl) ?_ (.refl _) (Option.some.inj hM) hS
  exact (res_two (res_tmp (x:=.i (max 0 (w64 (a0.Plays-x3)))) rfl) (res_tmp (x:=.i 0) rfl))
theorem W_law05_same {n:Nat} {a0:Box} {a1:Box} {r:Bool} (hM:law05_same n a0 a1=some r):PureSat Try.prog 41 [.agg (Box.cells a0),.agg (Box.cells a1)] (.b r):=by
 refine pure_of_wp mixed Try.func41 rfl (by decide) Try.ntmps41 (by simp) ?pure fun H0 g hf=>?_
 case pure=>exact .v _
 rw [frame0_of]
 change wpA _ _ _ _ (Fr.of [(0,.agg (Box.cells a0)),(1,.agg (Box.cells a1))]) H0 g
 have hS:=St.start hf
 refine Sq ?_
 refine Rg 3 ?_
 refine o_box (v:=.agg (Box.cells a0)) (cs:=(Box.cells a0)) hS (by decide) rfl rfl (by omega) fun H hS=>?_
 refine o_box (v:=.agg (Box.cells a1)) (cs:=(Box.cells a1)) hS (by decide) rfl rfl (by omega) fun H hS=>?_
 refine Oa (.b false) ?_
 refine Ni ?_
 refine w_iceE (L':=[(g+1,.cells (Box.cells a1))]) 1 2 hS rfl rfl rfl fun H hS=>?_
 refine w_iceE (L':=[]) 0 3 hS rfl rfl rfl fun H hS=>?_
 refine Ws ?_
 refine w_join (J:=Bool) (fun j=>[(4,.b j)]) (fun j H' g'=>St (·<g) H0 [] H' g'∧law05_same_j1 j=some r) ?_ ?_
 ·rintro v1 H g1 ⟨hS,hM⟩
  change wpA _ _ _ _ (Fr.of [(4,.b v1)]) _ _
  replace hS:St (·<g) H0 [] H g1:=hS
  replace hM:law05_same_j1 v1=some r:=hM
  refine r_ret ?_
  refine w_end (x:=.b v1) (f:=fun r=>.b r) (.inr rfl) ?_ (.refl _) (Option.some.inj hM) hS
  exact (res_one (res_tmp (x:=.b v1) rfl))
 ·refine Rg 61 ?_
  refine Of ((Box.cells a0)) ty_fo26_0 ?_
  refine Of ((Box.cells a0)) ty_fo24_0 ?_
  refine Olp (.i a0.Wheel.Round) ty_agg3 ty_sc3 ?_
  refine Of ((Box.cells a1)) ty_fo26_0 ?_
  refine Of ((Box.cells a1)) ty_fo24_0 ?_
  refine Olp (.i a1.Wheel.Round) ty_agg3 ty_sc3 ?_
  refine Oi (.b (a0.Wheel.Round==a1.Wheel.Round)) ?_
  refine Om (.b (a0.Wheel.Round==a1.Wheel.Round)) ?_
  rcases bft (a0.Wheel.Round==a1.Wheel.Round) with hb2 | hb2
  ·replace hM:=ifT hM hb2
   refine Oy (want:=true) hb2 ?_
   refine Of ((Box.cells a0)) ty_fo26_0 ?_
   refine Oy (want:=true) hb2 ?_
   refine Of ((Box.cells a0)) ty_fo24_1 ?_
   refine Oy (want:=true) hb2 ?_
   refine Olp (.sl .no 1 (a0.Wheel.Notches.map cI)) ty_agg22 ty_sc22 ?_
   refine Oy (want:=true) hb2 ?_
   refine Of ((Box.cells a1)) ty_fo26_0 ?_
   refine Oy (want:=true) hb2 ?_
   refine Of ((Box.cells a1)) ty_fo24_1 ?_
   refine Oy (want:=true) hb2 ?_
   refine Olp (.sl .no 1 (a1.Wheel.Notches.map cI)) ty_agg22 ty_sc22 ?_
   refine Oy (want:=true) hb2 ?_
   obtain ⟨r3,hr3,hM⟩:=bindE hM
   refine o_call (bs:=[.sl .no 1 (a0.Wheel.Notches.map cI),.sl .no 1 (a1.Wheel.Notches.map cI)]) (by decide) rfl rfl ((W_ref01_SameInts hr3).le (.k (.k .nil))) ?_
   refine Pt (.b r3) hb2 ?_
   refine Om (.b r3) ?_
   rcases bft r3 with hb4 | hb4
   ·replace hM:=ifT hM hb4
    refine Oy (want:=true) hb4 ?_
    refine Of ((Box.cells a0)) ty_fo26_0 ?_
    refine Oy (want:=true) hb4 ?_
    refine Of ((Box.cells a0)) ty_fo24_2 ?_
    refine Oy (want:=true) hb4 ?_
    refine Olp (.sl .no 1 (a0.Wheel.Coins.map cI)) ty_agg22 ty_sc22 ?_
    refine Oy (want:=true) hb4 ?_
    refine Of ((Box.cells a1)) ty_fo26_0 ?_
    refine Oy (want:=true) hb4 ?_
    refine Of ((Box.cells a1)) ty_fo24_2 ?_
    refine Oy (want:=true) hb4 ?_
    refine Olp (.sl .no 1 (a1.Wheel.Coins.map cI)) ty_agg22 ty_sc22 ?_
    refine Oy (want:=true) hb4 ?_
    obtain ⟨r5,hr5,hM⟩:=bindE hM
    refine o_call (bs:=[.sl .no 1 (a0.Wheel.Coins.map cI),.sl .no 1 (a1.Wheel.Coins.map cI)]) (by decide) rfl rfl ((W_ref01_SameInts hr5).le (.k (.k .nil))) ?_
    refine Pt (.b r5) hb4 ?_
    refine Om (.b r5) ?_
    rcases bft r5 with hb6 | hb6
    ·replace hM:=ifT hM hb6
     refine Oy (want:=true) hb6 ?_
     refine Of ((Box.cells a0)) ty_fo26_1 ?_
     refine Oy (want:=true) hb6 ?_
     refine Olp (.sl .no 1 (a0.Found.map cI)) ty_agg22 ty_sc22 ?_
     refine Oy (want:=true) hb6 ?_
     refine Of ((Box.cells a1)) ty_fo26_1 ?_
     refine Oy (want:=true) hb6 ?_
     refine Olp (.sl .no 1 (a1.Found.map cI)) ty_agg22 ty_sc22 ?_
     refine Oy (want:=true) hb6 ?_
     obtain ⟨r7,hr7,hM⟩:=bindE hM
     refine o_call (bs:=[.sl .no 1 (a0.Found.map cI),.sl .no 1 (a1.Found.map cI)]) (by decide) rfl rfl ((W_ref01_SameInts hr7).le (.k (.k .nil))) ?_
     refine Pt (.b r7) hb6 ?_
     refine Om (.b r7) ?_
     rcases bft r7 with hb8 | hb8
     ·replace hM:=ifT hM hb8
      refine Oy (want:=true) hb8 ?_
      refine Of ((Box.cells a0)) ty_fo26_2 ?_
      refine Oy (want:=true) hb8 ?_
      refine Olp (.sl .no 1 (a0.Marked.map cI)) ty_agg22 ty_sc22 ?_
      refine Oy (want:=true) hb8 ?_
      refine Of ((Box.cells a1)) ty_fo26_2 ?_
      refine Oy (want:=true) hb8 ?_
      refine Olp (.sl .no 1 (a1.Marked.map cI)) ty_agg22 ty_sc22 ?_
      refine Oy (want:=true) hb8 ?_
      obtain ⟨r9,hr9,hM⟩:=bindE hM
      refine o_call (bs:=[.sl .no 1 (a0.Marked.map cI),.sl .no 1 (a1.Marked.map cI)]) (by decide) rfl rfl ((W_ref01_SameInts hr9).le (.k (.k .nil))) ?_
      refine Pt (.b r9) hb8 ?_
      refine Om (.b r9) ?_
      rcases bft r9 with hb10 | hb10
      ·replace hM:=ifT hM hb10
       refine Oy (want:=true) hb10 ?_
       refine Of ((Box.cells a0)) ty_fo26_3 ?_
       refine Oy (want:=true) hb10 ?_
       refine Olp (.sl .no 1 (a0.Slugs.map cI)) ty_agg22 ty_sc22 ?_
       refine Oy (want:=true) hb10 ?_
       refine Of ((Box.cells a1)) ty_fo26_3 ?_
       refine Oy (want:=true) hb10 ?_
       refine Olp (.sl .no 1 (a1.Slugs.map cI)) ty_agg22 ty_sc22 ?_
       refine Oy (want:=true) hb10 ?_
       obtain ⟨r11,hr11,hM⟩:=bindE hM
       refine o_call (bs:=[.sl .no 1 (a0.Slugs.map cI),.sl .no 1 (a1.Slugs.map cI)]) (by decide) rfl rfl ((W_ref01_SameInts hr11).le (.k (.k .nil))) ?_
       refine Pt (.b r11) hb10 ?_
       refine Om (.b r11) ?_
       rcases bft r11 with hb12 | hb12
       ·replace hM:=ifT hM hb12
        refine Oy (want:=true) hb12 ?_
        refine Of ((Box.cells a0)) ty_fo26_4 ?_
        refine Oy (want:=true) hb12 ?_
        refine Olp (.i a0.Plays) ty_agg3 ty_sc3 ?_
        refine Oy (want:=true) hb12 ?_
        refine Of ((Box.cells a1)) ty_fo26_4 ?_
        refine Oy (want:=true) hb12 ?_
        refine Olp (.i a1.Plays) ty_agg3 ty_sc3 ?_
        refine Oy (want:=true) hb12 ?_
        refine Oi (.b (a0.Plays==a1.Plays)) ?_
        refine Pt (.b (a0.Plays==a1.Plays)) hb12 ?_
        refine Om (.b (a0.Plays==a1.Plays)) ?_
        rcases bft (a0.Plays==a1.Plays) with hb13 | hb13
        ·replace hM:=ifT hM hb13
         refine Oy (want:=true) hb13 ?_
         refine Of ((Box.cells a0)) ty_fo26_5 ?_
         refine Oy (want:=true) hb13 ?_
         refine Olp (.i a0.Skips) ty_agg3 ty_sc3 ?_
         refine Oy (want:=true) hb13 ?_
         refine Of ((Box.cells a1)) ty_fo26_5 ?_
         refine Oy (want:=true) hb13 ?_
         refine Olp (.i a1.Skips) ty_agg3 ty_sc3 ?_
         refine Oy (want:=true) hb13 ?_
         refine Oi (.b (a0.Skips==a1.Skips)) ?_
         refine Pt (.b (a0.Skips==a1.Skips)) hb13 ?_
         refine Oa (.b (a0.Skips==a1.Skips)) ?_
         refine Ni ?_
         exact w_goto (a0.Skips==a1.Skips) (.k .nil) ⟨(hS.keep [] rfl).up (by omega),hM⟩
        ·replace hM:=ifF hM hb13
         refine On (want:=true) hb13 ?_
         refine On (want:=true) hb13 ?_
         refine On (want:=true) hb13 ?_
         refine On (want:=true) hb13 ?_
         refine On (want:=true) hb13 ?_
         refine Pf (.b false) hb13 ?_
         refine Oa (.b false) ?_
         refine Ni ?_
         exact w_goto false (.k .nil) ⟨(hS.keep [] rfl).up (by omega),hM⟩
       ·replace hM:=ifF hM hb12
        refine On (want:=true) hb12 ?_
        refine On (want:=true) hb12 ?_
        refine On (want:=true) hb12 ?_
        refine On (want:=true) hb12 ?_
        refine On (want:=true) hb12 ?_
        refine Pf (.b false) hb12 ?_
        refine Om (.b false) ?_
        refine Og ?_
        refine Og ?_
        refine Og ?_
        refine Og ?_
        refine Og ?_
        refine o_pickF (v:=.b false) (e:=false) (by decide) rfl rfl rfl ?_
        refine Oa (.b false) ?_
        refine Ni ?_
        exact w_goto false (.k .nil) ⟨(hS.keep [] rfl).up (by omega),hM⟩
      ·replace hM:=ifF hM hb10
       refine On (want:=true) hb10 ?_
       refine On (want:=true) hb10 ?_
       refine On (want:=true) hb10 ?_
       refine On (want:=true) hb10 ?_
       refine On (want:=true) hb10 ?_
       refine Pf (.b false) hb10 ?_
       refine Om (.b false) ?_
       refine Og ?_
       refine Og ?_
       refine Og ?_
       refine Og ?_
       refine Og ?_
       refine o_pickF (v:=.b false) (e:=false) (by decide) rfl rfl rfl ?_
       refine Om (.b false) ?_
       refine Og ?_
       refine Og ?_
       refine Og ?_
       refine Og ?_
       refine Og ?_
       refine o_pickF (v:=.b false) (e:=false) (by decide) rfl rfl rfl ?_
       refine Oa (.b false) ?_
       refine Ni ?_
       exact w_goto false (.k .nil) ⟨(hS.keep [] rfl).up (by omega),hM⟩
     ·replace hM:=ifF hM hb8
      refine On (want:=true) hb8 ?_
      refine On (want:=true) hb8 ?_
      refine On (want:=true) hb8 ?_
      refine On (want:=true) hb8 ?_
      refine On (want:=true) hb8 ?_
      refine Pf (.b false) hb8 ?_
      refine Om (.b false) ?_
      refine Og ?_
      refine Og ?_
      refine Og ?_
      refine Og ?_
      refine Og ?_
      refine o_pickF (v:=.b false) (e:=false) (by decide) rfl rfl rfl ?_
      refine Om (.b false) ?_
      refine Og ?_
      refine Og ?_
      refine Og ?_
      refine Og ?_
      refine Og ?_
      refine o_pickF (v:=.b false) (e:=false) (by decide) rfl rfl rfl ?_
      refine Om (.b false) ?_
      refine Og ?_
      refine Og ?_
      refine Og ?_
      refine Og ?_
      refine Og ?_
      refine o_pickF (v:=.b false) (e:=false) (by decide) rfl rfl rfl ?_
      refine Oa (.b false) ?_
      refine Ni ?_
      exact w_goto false (.k .nil) ⟨(hS.keep [] rfl).up (by omega),hM⟩
    ·replace hM:=ifF hM hb6
     refine On (want:=true) hb6 ?_
     refine On (want:=true) hb6 ?_
     refine On (want:=true) hb6 ?_
     refine On (want:=true) hb6 ?_
     refine On (want:=true) hb6 ?_
     refine Pf (.b false) hb6 ?_
     refine Om (.b false) ?_
     refine Og ?_
     refine Og ?_
     refine Og ?_
     refine Og ?_
     refine Og ?_
     refine o_pickF (v:=.b false) (e:=false) (by decide) rfl rfl rfl ?_
     refine Om (.b false) ?_
     refine Og ?_
     refine Og ?_
     refine Og ?_
     refine Og ?_
     refine Og ?_
     refine o_pickF (v:=.b false) (e:=false) (by decide) rfl rfl rfl ?_
     refine Om (.b false) ?_
     refine Og ?_
     refine Og ?_
     refine Og ?_
     refine Og ?_
     refine Og ?_
     refine o_pickF (v:=.b false) (e:=false) (by decide) rfl rfl rfl ?_
     refine Om (.b false) ?_
     refine Og ?_
     refine Og ?_
     refine Og ?_
     refine Og ?_
     refine Og ?_
     refine o_pickF (v:=.b false) (e:=false) (by decide) rfl rfl rfl ?_
     refine Oa (.b false) ?_
     refine Ni ?_
     exact w_goto false (.k .nil) ⟨(hS.keep [] rfl).up (by omega),hM⟩
   ·replace hM:=ifF hM hb4
    refine On (want:=true) hb4 ?_
    refine On (want:=true) hb4 ?_
    refine On (want:=true) hb4 ?_
    refine On (want:=true) hb4 ?_
    refine On (want:=true) hb4 ?_
    refine On (want:=true) hb4 ?_
    refine On (want:=true) hb4 ?_
    refine Pf (.b false) hb4 ?_
    refine Om (.b false) ?_
    refine Og ?_
    refine Og ?_
    refine Og ?_
    refine Og ?_
    refine Og ?_
    refine o_pickF (v:=.b false) (e:=false) (by decide) rfl rfl rfl ?_
    refine Om (.b false) ?_
    refine Og ?_
    refine Og ?_
    refine Og ?_
    refine Og ?_
    refine Og ?_
    refine o_pickF (v:=.b false) (e:=false) (by decide) rfl rfl rfl ?_
    refine Om (.b false) ?_
    refine Og ?_
    refine Og ?_
    refine Og ?_
    refine Og ?_
    refine Og ?_
    refine o_pickF (v:=.b false) (e:=false) (by decide) rfl rfl rfl ?_
    refine Om (.b false) ?_
    refine Og ?_
    refine Og ?_
    refine Og ?_
    refine Og ?_
    refine Og ?_
    refine o_pickF (v:=.b false) (e:=false) (by decide) rfl rfl rfl ?_
    refine Om (.b false) ?_
    refine Og ?_
    refine Og ?_
    refine Og ?_
    refine Og ?_
    refine Og ?_
    refine o_pickF (v:=.b false) (e:=false) (by decide) rfl rfl rfl ?_
    refine Oa (.b false) ?_
    refine Ni ?_
    exact w_goto false (.k .nil) ⟨(hS.keep [] rfl).up (by omega),hM⟩
  ·replace hM:=ifF hM hb2
   refine On (want:=true) hb2 ?_
   refine On (want:=true) hb2 ?_
   refine On (want:=true) hb2 ?_
   refine On (want:=true) hb2 ?_
   refine On (want:=true) hb2 ?_
   refine On (want:=true) hb2 ?_
   refine On (want:=true) hb2 ?_
   refine Pf (.b false) hb2 ?_
   refine Om (.b false) ?_
   refine Og ?_
   refine Og ?_
   refine Og ?_
   refine Og ?_
   refine Og ?_
   refine Og ?_
   refine Og ?_
   refine o_pickF (v:=.b false) (e:=false) (by decide) rfl rfl rfl ?_
   refine Om (.b false) ?_
   refine Og ?_
   refine Og ?_
   refine Og ?_
   refine Og ?_
   refine Og ?_
   refine o_pickF (v:=.b false) (e:=false) (by decide) rfl rfl rfl ?_
   refine Om (.b false) ?_
   refine Og ?_
   refine Og ?_
   refine Og ?_
   refine Og ?_
   refine Og ?_
   refine o_pickF (v:=.b false) (e:=false) (by decide) rfl rfl rfl ?_
   refine Om (.b false) ?_
   refine Og ?_
   refine Og ?_
   refine Og ?_
   refine Og ?_
   refine Og ?_
   refine o_pickF (v:=.b false) (e:=false) (by decide) rfl rfl rfl ?_
   refine Om (.b false) ?_
   refine Og ?_
   refine Og ?_
   refine Og ?_
   refine Og ?_
   refine Og ?_
   refine o_pickF (v:=.b false) (e:=false) (by decide) rfl rfl rfl ?_
   refine Om (.b false) ?_
   refine Og ?_
   refine Og ?_
   refine Og ?_
   refine Og ?_
   refine Og ?_
   refine o_pickF (v:=.b false) (e:=false) (by decide) rfl rfl rfl ?_
   refine Oa (.b false) ?_
   refine Ni ?_
   exact w_goto false (.k .nil) ⟨(hS.keep [] rfl).up (by omega),hM⟩
theorem W_law05_TakingsCan {n:Nat} {a0:Box} {r:Bool} (hM:law05_TakingsCan n a0=some r):PureSat Try.prog 7 [.agg (Box.cells a0)] (.b r):=by
 refine pure_of_wp mixed Try.func7 rfl (by decide) Try.ntmps7 (by simp) ?pure fun H0 g hf=>?_
 case pure=>exact .v _
 rw [frame0_of]
 change wpA _ _ _ _ (Fr.of [(0,.agg (Box.cells a0))]) H0 g
 have hS:=St.start hf
 refine Sq ?_
 refine Rg 2 ?_
 refine o_box (v:=.agg (Box.cells a0)) (cs:=(Box.cells a0)) hS (by decide) rfl rfl (by omega) fun H hS=>?_
 refine Oa (.b false) ?_
 refine Ni ?_
 refine w_iceE (L':=[]) 0 1 hS rfl rfl rfl fun H hS=>?_
 refine Ws ?_
 refine Sq ?_
 refine Sq ?_
 refine Rg 2 ?_
 refine Olg (.agg (Box.cells a0)) ty_agg26 ?_
 obtain ⟨r1,hr1,hM⟩:=bindE hM
 refine o_call (bs:=[.agg (Box.cells a0)]) (by decide) rfl rfl ((W_law05_Far hr1).le (.k .nil)) ?_
 refine Ni ?_
 refine Ws ?_
 rcases bft r1 with hb2 | hb2
 ·replace hM:=ifT hM hb2
  refine Ct hb2 ?_
  refine Sq ?_
  refine Rg 2 ?_
  obtain ⟨r3,hr3,hM⟩:=bindE hM
  refine o_call (bs:=[]) (by decide) rfl rfl ((W_law05_works hr3).le .nil) ?_
  refine Oa (.b r3) ?_
  refine Ni ?_
  refine Ws ?_
  refine r_ret ?_
  refine r_then_ret ?_
  refine w_end (x:=.b r3) (f:=fun r=>.b r) (.inr rfl) ?_ (.refl _) (Option.some.inj hM) hS
  exact (res_one (res_tmp (x:=.b r3) rfl))
 ·replace hM:=ifF hM hb2
  refine Cf hb2 ?_
  refine r_skip ?_
  refine Ws ?_
  refine Sq ?_
  refine Rg 4 ?_
  refine Olg (.agg (Box.cells a0)) ty_agg26 ?_
  obtain ⟨r4,hr4,hM⟩:=bindE hM
  refine o_call (bs:=[.agg (Box.cells a0)]) (by decide) rfl rfl ((W_ref05_Copy hr4).le (.k .nil)) ?_
  refine o_alloc hS (by decide) ty_zero26 (by omega) fun H hS=>?_
  refine o_store (v:=.agg (Box.cells r4)) (ns:=(Box.cells r4)) (L':=[(g+2+2+2,.cells (Box.cells r4))]) 0 hS rfl rfl .no rfl rfl ty_var26 nlb rfl fun H hS=>?_
  refine Ni ?_
  refine w_iceE (L':=[]) 0 3 hS rfl rfl rfl fun H hS=>?_
  refine Ws ?_
  refine Sq ?_
  refine Sq ?_
  have hS0:=hS
  refine r_draw (n:=5) rfl (by kernel_rfl) ?_
  refine Olg (.agg (Box.cells r4)) ty_agg26 ?_
  obtain ⟨r5,hr5,hM⟩:=bindE hM
  refine o_call (bs:=[.agg (Box.cells r4)]) (by decide) rfl rfl ((W_takings_Check hr5).le (.k .nil)) ?_
  refine Olg (.agg (Box.cells a0)) ty_agg26 ?_
  obtain ⟨r6,hr6,hM⟩:=bindE hM
  refine o_call (bs:=[.agg (Box.cells a0)]) (by decide) rfl rfl ((W_ref05_Check hr6).le (.k .nil)) ?_
  refine Oi (.b (r5 != r6)) ?_
  refine Ni ?_
  refine Ws ?_
  rcases bft (r5 != r6) with hb7 | hb7
  ·replace hM:=ifT hM hb7
   refine Ct hb7 ?_
   refine Sq ?_
   refine Rg 1 ?_
   refine Oa (.b false) ?_
   refine Ni ?_
   refine Ws ?_
   refine r_ret ?_
   refine r_then_ret ?_
   refine w_end (x:=.b false) (f:=fun r=>.b r) (.inr rfl) ?_ (.refl _) (Option.some.inj hM) hS
   exact (res_one (res_tmp (x:=.b false) rfl))
  ·replace hM:=ifF hM hb7
   refine Cf hb7 ?_
   refine r_skip ?_
   refine Ws ?_
   refine Sq ?_
   refine Rg 7 ?_
   refine Olg (.agg (Box.cells r4)) ty_agg26 ?_
   obtain ⟨r8,hr8,hM⟩:=bindE hM
   refine o_call (bs:=[.agg (Box.cells r4)]) (by decide) rfl rfl ((W_takings_Can hr8).le (.k .nil)) ?_
   refine Om (.tup [.sl .no 1 (r8.1.map cI),.i r8.2]) ?_
   refine Ox (.sl .no 1 (r8.1.map cI)) ?_
   refine Ox (.i r8.2) ?_
   refine Oa (.sl .no 1 (r8.1.map cI)) ?_
   refine Oa (.i r8.2) ?_
   refine Ni ?_
   refine Ws ?_
   refine Sq ?_
   refine Rg 7 ?_
   refine Olg (.agg (Box.cells a0)) ty_agg26 ?_
   obtain ⟨r9,hr9,hM⟩:=bindE hM
   refine o_call (bs:=[.agg (Box.cells a0)]) (by decide) rfl rfl ((W_ref05_Can hr9).le (.k .nil)) ?_
   refine Om (.tup [.sl .no 1 (r9.1.map cI),.i r9.2]) ?_
   refine Ox (.sl .no 1 (r9.1.map cI)) ?_
   refine Ox (.i r9.2) ?_
   refine Oa (.sl .no 1 (r9.1.map cI)) ?_
   refine Oa (.i r9.2) ?_
   refine Ni ?_
   refine Ws ?_
   refine Sq ?_
   refine Rg 11 ?_
   refine Olg (.agg (Box.cells r4)) ty_agg26 ?_
   obtain ⟨r10,hr10,hM⟩:=bindE hM
   refine o_call (bs:=[.agg (Box.cells r4)]) (by decide) rfl rfl ((W_takings_Cash hr10).le (.k .nil)) ?_
   refine Om (.tup [.i r10.1,.i r10.2.1,.i r10.2.2.1,.i r10.2.2.2]) ?_
   refine Ox (.i r10.1) ?_
   refine Ox (.i r10.2.1) ?_
   refine Ox (.i r10.2.2.1) ?_
   refine Ox (.i r10.2.2.2) ?_
   refine Oa (.i r10.1) ?_
   refine Oa (.i r10.2.1) ?_
   refine Oa (.i r10.2.2.1) ?_
   refine Oa (.i r10.2.2.2) ?_
   refine Ni ?_
   refine Ws ?_
   refine Sq ?_
   refine Rg 11 ?_
   refine Olg (.agg (Box.cells a0)) ty_agg26 ?_
   obtain ⟨r11,hr11,hM⟩:=bindE hM
   refine o_call (bs:=[.agg (Box.cells a0)]) (by decide) rfl rfl ((W_ref05_Cash hr11).le (.k .nil)) ?_
   refine Om (.tup [.i r11.1,.i r11.2.1,.i r11.2.2.1,.i r11.2.2.2]) ?_
   refine Ox (.i r11.1) ?_
   refine Ox (.i r11.2.1) ?_
   refine Ox (.i r11.2.2.1) ?_
   refine Ox (.i r11.2.2.2) ?_
   refine Oa (.i r11.1) ?_
   refine Oa (.i r11.2.1) ?_
   refine Oa (.i r11.2.2.1) ?_
   refine Oa (.i r11.2.2.2) ?_
   refine Ni ?_
   refine Ws ?_
   refine Sq ?_
   refine w_join (J:=Bool) (fun j=>[(1,.ep (Box.cells a0)),(3,.ep (Box.cells r4)),(78,.b j)]) (fun j H' g'=>St (·<g) H0 [] H' g'∧law05_TakingsCan_j1 n a0 r4 j=some r) ?_ ?_
   ·rintro v12 H g1 ⟨hS,hM⟩
    change wpA _ _ _ _ (Fr.of [(1,.ep (Box.cells a0)),(3,.ep (Box.cells r4)),(78,.b v12)]) _ _
    replace hS:St (·<g) H0 [] H g1:=hS
    replace hM:law05_TakingsCan_j1 n a0 r4 v12=some r:=hM
    rcases bft v12 with hb13 | hb13
    ·replace hM:=ifT hM hb13
     refine Ct hb13 ?_
     refine Sq ?_
     refine Rg 1 ?_
     refine Oa (.b false) ?_
     refine Ni ?_
     refine Ws ?_
     refine r_ret ?_
     refine r_then_ret ?_
     refine w_end (x:=.b false) (f:=fun r=>.b r) (.inr rfl) ?_ (.refl _) (Option.some.inj hM) hS
     exact (res_one (res_tmp (x:=.b false) rfl))
    ·replace hM:=ifF hM hb13
     refine Cf hb13 ?_
     refine r_skip ?_
     refine Ws ?_
     refine Sq ?_
     refine Rg 7 ?_
     refine Olg (.agg (Box.cells r4)) ty_agg26 ?_
     obtain ⟨r14,hr14,hM⟩:=bindE hM
     refine o_call (bs:=[.agg (Box.cells r4)]) (by decide) rfl rfl ((W_takings_Skipped hr14).le (.k .nil)) ?_
     refine Om (.tup [.i r14.1,.i r14.2]) ?_
     refine Ox (.i r14.1) ?_
     refine Ox (.i r14.2) ?_
     refine Oa (.i r14.1) ?_
     refine Oa (.i r14.2) ?_
     refine Ni ?_
     refine Ws ?_
     refine Sq ?_
     refine Rg 7 ?_
     refine Olg (.agg (Box.cells a0)) ty_agg26 ?_
     obtain ⟨r15,hr15,hM⟩:=bindE hM
     refine o_call (bs:=[.agg (Box.cells a0)]) (by decide) rfl rfl ((W_ref05_Skipped hr15).le (.k .nil)) ?_
     refine Om (.tup [.i r15.1,.i r15.2]) ?_
     refine Ox (.i r15.1) ?_
     refine Ox (.i r15.2) ?_
     refine Oa (.i r15.1) ?_
     refine Oa (.i r15.2) ?_
     refine Ni ?_
     refine Ws ?_
     refine Sq ?_
     refine Rg 7 ?_
     refine Olg (.agg (Box.cells r4)) ty_agg26 ?_
     obtain ⟨r16,hr16,hM⟩:=bindE hM
     refine o_call (bs:=[.agg (Box.cells r4)]) (by decide) rfl rfl ((W_takings_Short hr16).le (.k .nil)) ?_
     refine Om (.tup [.i r16.1,.i r16.2]) ?_
     refine Ox (.i r16.1) ?_
     refine Ox (.i r16.2) ?_
     refine Oa (.i r16.1) ?_
     refine Oa (.i r16.2) ?_
     refine Ni ?_
     refine Ws ?_
     refine Sq ?_
     refine Rg 7 ?_
     refine Olg (.agg (Box.cells a0)) ty_agg26 ?_
     obtain ⟨r17,hr17,hM⟩:=bindE hM
     refine o_call (bs:=[.agg (Box.cells a0)]) (by decide) rfl rfl ((W_ref05_Short hr17).le (.k .nil)) ?_
     refine Om (.tup [.i r17.1,.i r17.2]) ?_
     refine Ox (.i r17.1) ?_
     refine Ox (.i r17.2) ?_
     refine Oa (.i r17.1) ?_
     refine Oa (.i r17.2) ?_
     refine Ni ?_
     refine Ws ?_
     refine w_join (J:=Bool) (fun j=>[(2,.b j)]) (fun j H' g'=>St (·<g) H0 [] H' g'∧law05_TakingsCan_j2 j=some r) ?_ ?_
     ·rintro v18 H g2 ⟨hS,hM⟩
      change wpA _ _ _ _ (Fr.of [(2,.b v18)]) _ _
      replace hS:St (·<g) H0 [] H g2:=hS
      replace hM:law05_TakingsCan_j2 v18=some r:=hM
      refine r_ret ?_
      refine w_end (x:=.b v18) (f:=fun r=>.b r) (.inr rfl) ?_ (.refl _) (Option.some.inj hM) hS
      exact (res_one (res_tmp (x:=.b v18) rfl))
     ·refine Rg 27 ?_
      refine Om (.i r14.1) ?_
      refine Om (.i r15.1) ?_
      refine Oi (.b (r14.1==r15.1)) ?_
      refine Om (.b (r14.1==r15.1)) ?_
      rcases bft (r14.1==r15.1) with hb19 | hb19
      ·replace hM:=ifT hM hb19
       refine Oy (want:=true) hb19 ?_
       refine Om (.i r14.2) ?_
       refine Oy (want:=true) hb19 ?_
       refine Om (.i r15.2) ?_
       refine Oy (want:=true) hb19 ?_
       refine Oi (.b (r14.2==r15.2)) ?_
       refine Pt (.b (r14.2==r15.2)) hb19 ?_
       refine Om (.b (r14.2==r15.2)) ?_
       rcases bft (r14.2==r15.2) with hb20 | hb20
       ·replace hM:=ifT hM hb20
        refine Oy (want:=true) hb20 ?_
        refine Om (.i r16.1) ?_
        refine Oy (want:=true) hb20 ?_
        refine Om (.i r17.1) ?_
        refine Oy (want:=true) hb20 ?_
        refine Oi (.b (r16.1==r17.1)) ?_
        refine Pt (.b (r16.1==r17.1)) hb20 ?_
        refine Om (.b (r16.1==r17.1)) ?_
        rcases bft (r16.1==r17.1) with hb21 | hb21
        ·replace hM:=ifT hM hb21
         refine Oy (want:=true) hb21 ?_
         refine Om (.i r16.2) ?_
         refine Oy (want:=true) hb21 ?_
         refine Om (.i r17.2) ?_
         refine Oy (want:=true) hb21 ?_
         refine Oi (.b (r16.2==r17.2)) ?_
         refine Pt (.b (r16.2==r17.2)) hb21 ?_
         refine Om (.b (r16.2==r17.2)) ?_
         rcases bft (r16.2==r17.2) with hb22 | hb22
         ·replace hM:=ifT hM hb22
          refine Oy (want:=true) hb22 ?_
          refine Olg (.agg (Box.cells r4)) ty_agg26 ?_
          refine Oy (want:=true) hb22 ?_
          refine Olg (.agg (Box.cells a0)) ty_agg26 ?_
          refine Oy (want:=true) hb22 ?_
          obtain ⟨r23,hr23,hM⟩:=bindE hM
          refine o_call (bs:=[.agg (Box.cells r4),.agg (Box.cells a0)]) (by decide) rfl rfl ((W_law05_same hr23).le (.k (.k .nil))) ?_
          refine Pt (.b r23) hb22 ?_
          refine Om (.b r23) ?_
          rcases bft r23 with hb24 | hb24
          ·replace hM:=ifT hM hb24
           refine Oy (want:=true) hb24 ?_
           obtain ⟨r25,hr25,hM⟩:=bindE hM
           refine o_call (bs:=[]) (by decide) rfl rfl ((W_law05_works hr25).le .nil) ?_
           refine Pt (.b r25) hb24 ?_
           refine Oa (.b r25) ?_
           refine Ni ?_
           exact w_goto r25 (.k .nil) ⟨(hS.keep [] rfl).up (by omega),hM⟩
          ·replace hM:=ifF hM hb24
           refine On (want:=true) hb24 ?_
           refine Pf (.b false) hb24 ?_
           refine Oa (.b false) ?_
           refine Ni ?_
           exact w_goto false (.k .nil) ⟨(hS.keep [] rfl).up (by omega),hM⟩
         ·replace hM:=ifF hM hb22
          refine On (want:=true) hb22 ?_
          refine On (want:=true) hb22 ?_
          refine On (want:=true) hb22 ?_
          refine Pf (.b false) hb22 ?_
          refine Om (.b false) ?_
          refine Og ?_
          refine o_pickF (v:=.b false) (e:=false) (by decide) rfl rfl rfl ?_
          refine Oa (.b false) ?_
          refine Ni ?_
          exact w_goto false (.k .nil) ⟨(hS.keep [] rfl).up (by omega),hM⟩
        ·replace hM:=ifF hM hb21
         refine On (want:=true) hb21 ?_
         refine On (want:=true) hb21 ?_
         refine On (want:=true) hb21 ?_
         refine Pf (.b false) hb21 ?_
         refine Om (.b false) ?_
         refine Og ?_
         refine Og ?_
         refine Og ?_
         refine o_pickF (v:=.b false) (e:=false) (by decide) rfl rfl rfl ?_
         refine Om (.b false) ?_
         refine Og ?_
         refine o_pickF (v:=.b false) (e:=false) (by decide) rfl rfl rfl ?_
         refine Oa (.b false) ?_
         refine Ni ?_
         exact w_goto false (.k .nil) ⟨(hS.keep [] rfl).up (by omega),hM⟩
       ·replace hM:=ifF hM hb20
        refine On (want:=true) hb20 ?_
        refine On (want:=true) hb20 ?_
        refine On (want:=true) hb20 ?_
        refine Pf (.b false) hb20 ?_
        refine Om (.b false) ?_
        refine Og ?_
        refine Og ?_
        refine Og ?_
        refine o_pickF (v:=.b false) (e:=false) (by decide) rfl rfl rfl ?_
        refine Om (.b false) ?_
        refine Og ?_
        refine Og ?_
        refine Og ?_
        refine o_pickF (v:=.b false) (e:=false) (by decide) rfl rfl rfl ?_
        refine Om (.b false) ?_
        refine Og ?_
        refine o_pickF (v:=.b false) (e:=false) (by decide) rfl rfl rfl ?_
        refine Oa (.b false) ?_
        refine Ni ?_
        exact w_goto false (.k .nil) ⟨(hS.keep [] rfl).up (by omega),hM⟩
      ·replace hM:=ifF hM hb19
       refine On (want:=true) hb19 ?_
       refine On (want:=true) hb19 ?_
       refine On (want:=true) hb19 ?_
       refine Pf (.b false) hb19 ?_
       refine Om (.b false) ?_
       refine Og ?_
       refine Og ?_
       refine Og ?_
       refine o_pickF (v:=.b false) (e:=false) (by decide) rfl rfl rfl ?_
       refine Om (.b false) ?_
       refine Og ?_
       refine Og ?_
       refine Og ?_
       refine o_pickF (v:=.b false) (e:=false) (by decide) rfl rfl rfl ?_
       refine Om (.b false) ?_
       refine Og ?_
       refine Og ?_
       refine Og ?_
       refine o_pickF (v:=.b false) (e:=false) (by decide) rfl rfl rfl ?_
       refine Om (.b false) ?_
       refine Og ?_
       refine o_pickF (v:=.b false) (e:=false) (by decide) rfl rfl rfl ?_
       refine Oa (.b false) ?_
       refine Ni ?_
       exact w_goto false (.k .nil) ⟨(hS.keep [] rfl).up (by omega),hM⟩
   ·refine Rg 29 ?_
    refine Om (.sl .no 1 (r8.1.map cI)) ?_
    refine Om (.sl .no 1 (r9.1.map cI)) ?_
    obtain ⟨r26,hr26,hM⟩:=bindE hM
    refine o_call (bs:=[.sl .no 1 (r8.1.map cI),.sl .no 1 (r9.1.map cI)]) (by decide) rfl rfl ((W_ref01_SameInts hr26).le (.k (.k .nil))) ?_
    refine o_not (e:=r26) (by decide) rfl ?_
    refine Om (.b (!r26)) ?_
    rcases bft (!r26) with hb27 | hb27
    ·replace hM:=ifT hM hb27
     refine On (want:=false) hb27 ?_
     refine On (want:=false) hb27 ?_
     refine On (want:=false) hb27 ?_
     refine Pt (.b true) hb27 ?_
     refine Om (.b true) ?_
     refine Og ?_
     refine Og ?_
     refine Og ?_
     refine o_pickT (v:=.b true) (e:=true) (by decide) rfl rfl rfl ?_
     refine Om (.b true) ?_
     refine Og ?_
     refine Og ?_
     refine Og ?_
     refine o_pickT (v:=.b true) (e:=true) (by decide) rfl rfl rfl ?_
     refine Om (.b true) ?_
     refine Og ?_
     refine Og ?_
     refine Og ?_
     refine o_pickT (v:=.b true) (e:=true) (by decide) rfl rfl rfl ?_
     refine Om (.b true) ?_
     refine Og ?_
     refine Og ?_
     refine Og ?_
     refine o_pickT (v:=.b true) (e:=true) (by decide) rfl rfl rfl ?_
     refine Ni ?_
     exact w_goto true (.k (.k (.k .nil))) ⟨(hS.keep [] rfl).up (by omega),hM⟩
    ·replace hM:=ifF hM hb27
     refine Oy (want:=false) hb27 ?_
     refine Om (.i r8.2) ?_
     refine Oy (want:=false) hb27 ?_
     refine Om (.i r9.2) ?_
     refine Oy (want:=false) hb27 ?_
     refine Oi (.b (r8.2 != r9.2)) ?_
     refine Pf (.b (r8.2 != r9.2)) hb27 ?_
     refine Om (.b (r8.2 != r9.2)) ?_
     rcases bft (r8.2 != r9.2) with hb28 | hb28
     ·replace hM:=ifT hM hb28
      refine On (want:=false) hb28 ?_
      refine On (want:=false) hb28 ?_
      refine On (want:=false) hb28 ?_
      refine Pt (.b true) hb28 ?_
      refine Om (.b true) ?_
      refine Og ?_
      refine Og ?_
      refine Og ?_
      refine o_pickT (v:=.b true) (e:=true) (by decide) rfl rfl rfl ?_
      refine Om (.b true) ?_
      refine Og ?_
      refine Og ?_
      refine Og ?_
      refine o_pickT (v:=.b true) (e:=true) (by decide) rfl rfl rfl ?_
      refine Om (.b true) ?_
      refine Og ?_
      refine Og ?_
      refine Og ?_
      refine o_pickT (v:=.b true) (e:=true) (by decide) rfl rfl rfl ?_
      refine Ni ?_
      exact w_goto true (.k (.k (.k .nil))) ⟨(hS.keep [] rfl).up (by omega),hM⟩
     ·replace hM:=ifF hM hb28
      refine Oy (want:=false) hb28 ?_
      refine Om (.i r10.1) ?_
      refine Oy (want:=false) hb28 ?_
      refine Om (.i r11.1) ?_
      refine Oy (want:=false) hb28 ?_
      refine Oi (.b (r10.1 != r11.1)) ?_
      refine Pf (.b (r10.1 != r11.1)) hb28 ?_
      refine Om (.b (r10.1 != r11.1)) ?_
      rcases bft (r10.1 != r11.1) with hb29 | hb29
      ·replace hM:=ifT hM hb29
       refine On (want:=false) hb29 ?_
       refine On (want:=false) hb29 ?_
       refine On (want:=false) hb29 ?_
       refine Pt (.b true) hb29 ?_
       refine Om (.b true) ?_
       refine Og ?_
       refine Og ?_
       refine Og ?_
       refine o_pickT (v:=.b true) (e:=true) (by decide) rfl rfl rfl ?_
       refine Om (.b true) ?_
       refine Og ?_
       refine Og ?_
       refine Og ?_
       refine o_pickT (v:=.b true) (e:=true) (by decide) rfl rfl rfl ?_
       refine Ni ?_
       exact w_goto true (.k (.k (.k .nil))) ⟨(hS.keep [] rfl).up (by omega),hM⟩
      ·replace hM:=ifF hM hb29
       refine Oy (want:=false) hb29 ?_
       refine Om (.i r10.2.1) ?_
       refine Oy (want:=false) hb29 ?_
       refine Om (.i r11.2.1) ?_
       refine Oy (want:=false) hb29 ?_
       refine Oi (.b (r10.2.1 != r11.2.1)) ?_
       refine Pf (.b (r10.2.1 != r11.2.1)) hb29 ?_
       refine Om (.b (r10.2.1 != r11.2.1)) ?_
       rcases bft (r10.2.1 != r11.2.1) with hb30 | hb30
       ·replace hM:=ifT hM hb30
        refine On (want:=false) hb30 ?_
        refine On (want:=false) hb30 ?_
        refine On (want:=false) hb30 ?_
        refine Pt (.b true) hb30 ?_
        refine Om (.b true) ?_
        refine Og ?_
        refine Og ?_
        refine Og ?_
        refine o_pickT (v:=.b true) (e:=true) (by decide) rfl rfl rfl ?_
        refine Ni ?_
        exact w_goto true (.k (.k (.k .nil))) ⟨(hS.keep [] rfl).up (by omega),hM⟩
       ·replace hM:=ifF hM hb30
        refine Oy (want:=false) hb30 ?_
        refine Om (.i r10.2.2.1) ?_
        refine Oy (want:=false) hb30 ?_
        refine Om (.i r11.2.2.1) ?_
        refine Oy (want:=false) hb30 ?_
        refine Oi (.b (r10.2.2.1 != r11.2.2.1)) ?_
        refine Pf (.b (r10.2.2.1 != r11.2.2.1)) hb30 ?_
        refine Om (.b (r10.2.2.1 != r11.2.2.1)) ?_
        rcases bft (r10.2.2.1 != r11.2.2.1) with hb31 | hb31
        ·replace hM:=ifT hM hb31
         refine On (want:=false) hb31 ?_
         refine On (want:=false) hb31 ?_
         refine On (want:=false) hb31 ?_
         refine Pt (.b true) hb31 ?_
         refine Ni ?_
         exact w_goto true (.k (.k (.k .nil))) ⟨(hS.keep [] rfl).up (by omega),hM⟩
        ·replace hM:=ifF hM hb31
         refine Oy (want:=false) hb31 ?_
         refine Om (.i r10.2.2.2) ?_
         refine Oy (want:=false) hb31 ?_
         refine Om (.i r11.2.2.2) ?_
         refine Oy (want:=false) hb31 ?_
         refine Oi (.b (r10.2.2.2 != r11.2.2.2)) ?_
         refine Pf (.b (r10.2.2.2 != r11.2.2.2)) hb31 ?_
         refine Ni ?_
         exact w_goto (r10.2.2.2 != r11.2.2.2) (.k (.k (.k .nil))) ⟨(hS.keep [] rfl).up (by omega),hM⟩
end Go.Proofs.Ytenogpmlhpcibaa
