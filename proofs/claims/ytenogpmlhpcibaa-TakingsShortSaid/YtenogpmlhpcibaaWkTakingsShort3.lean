/-
  The code returns what the functions say (printed by gen.py).
  Conditions: none.
-/
import Derived.Test.YtenogpmlhpcibaaWkTakingsShort2
import Derived.Test.YtenogpmlhpcibaaSh
import Derived.Test.YtenogpmlhpcibaaKs
import Derived.Test.YtenogpmlhpcibaaEn
set_option linter.all false
namespace Go.Proofs.Ytenogpmlhpcibaa
open Go Go.AM Go.Law
set_option linter.unusedVariables false
set_option maxRecDepth 4000
set_option maxHeartbeats 4000000
theorem W_takings_Cash {n : Nat} {a0 : Box} {r : Int × Int × Int × Int} (hM : takings_Cash n a0 = some r) : PureSat Try.prog 20 [.agg [.i a0.Wheel.Round, .sl .no 1 (a0.Wheel.Notches.map cI), .sl .no 1 (a0.Wheel.Coins.map cI), .sl .no 1 (a0.Found.map cI), .sl .no 1 (a0.Marked.map cI), .sl .no 1 (a0.Slugs.map cI), .i a0.Plays, .i a0.Skips]] (.tup [.i r.1, .i r.2.1, .i r.2.2.1, .i r.2.2.2]) := by
 refine pure_of_wp mixed Try.func20 rfl (by decide) Try.ntmps20 (by simp) ?pure fun H0 g hf => ?_
 case pure => exact .tup _ (pl_cons (.v _) (pl_cons (.v _) (pl_cons (.v _) (pl_cons (.v _) pl_nil))))
 rw [frame0_of]
 change wpA _ _ _ _ (Fr.of [(0, .agg [.i a0.Wheel.Round, .sl .no 1 (a0.Wheel.Notches.map cI), .sl .no 1 (a0.Wheel.Coins.map cI), .sl .no 1 (a0.Found.map cI), .sl .no 1 (a0.Marked.map cI), .sl .no 1 (a0.Slugs.map cI), .i a0.Plays, .i a0.Skips])]) H0 g
 have hS := St.start hf
 refine Sq ?_
 refine Rg 5 ?_
 refine o_box (v := .agg [.i a0.Wheel.Round, .sl .no 1 (a0.Wheel.Notches.map cI), .sl .no 1 (a0.Wheel.Coins.map cI), .sl .no 1 (a0.Found.map cI), .sl .no 1 (a0.Marked.map cI), .sl .no 1 (a0.Slugs.map cI), .i a0.Plays, .i a0.Skips]) (cs := [.i a0.Wheel.Round, .sl .no 1 (a0.Wheel.Notches.map cI), .sl .no 1 (a0.Wheel.Coins.map cI), .sl .no 1 (a0.Found.map cI), .sl .no 1 (a0.Marked.map cI), .sl .no 1 (a0.Slugs.map cI), .i a0.Plays, .i a0.Skips]) hS (by decide) rfl rfl (by omega) fun H hS => ?_
 refine Oa (.i 0) ?_
 refine Oa (.i 0) ?_
 refine Oa (.i 0) ?_
 refine Oa (.i 0) ?_
 refine Ni ?_
 refine w_iceE (L' := []) 0 1 hS rfl rfl rfl fun H hS => ?_
 refine Ws ?_
 refine Sq ?_
 refine Rg 7 ?_
 refine Olg (.agg [.i a0.Wheel.Round, .sl .no 1 (a0.Wheel.Notches.map cI), .sl .no 1 (a0.Wheel.Coins.map cI), .sl .no 1 (a0.Found.map cI), .sl .no 1 (a0.Marked.map cI), .sl .no 1 (a0.Slugs.map cI), .i a0.Plays, .i a0.Skips]) ty_agg26 ?_
 obtain ⟨r1, hr1, hM⟩ := bindE hM
 refine o_call (bs := [.agg [.i a0.Wheel.Round, .sl .no 1 (a0.Wheel.Notches.map cI), .sl .no 1 (a0.Wheel.Coins.map cI), .sl .no 1 (a0.Found.map cI), .sl .no 1 (a0.Marked.map cI), .sl .no 1 (a0.Slugs.map cI), .i a0.Plays, .i a0.Skips]]) (by decide) rfl rfl ((W_takings_open hr1).le (.k .nil)) ?_
 refine Om (.tup [pA Box_.cells r1.1, .i r1.2]) ?_
 refine Ox (pA Box_.cells r1.1) ?_
 refine Ox (.i r1.2) ?_
 refine Oa (pA Box_.cells r1.1) ?_
 refine Oa (.i r1.2) ?_
 refine Ni ?_
 refine Ws ?_
 refine Sq ?_
 refine Sq ?_
 refine Rg 2 ?_
 refine Om (.i r1.2) ?_
 refine Oi (.b (r1.2 != 0)) ?_
 refine Ni ?_
 refine Ws ?_
 rcases bft (r1.2 != 0) with hb2 | hb2
 ·replace hM := ifT hM hb2
  refine Ct hb2 ?_
  refine Sq ?_
  refine Rg 5 ?_
  refine Om (.i r1.2) ?_
  refine Oa (.i 0) ?_
  refine Oa (.i 0) ?_
  refine Oa (.i 0) ?_
  refine Oa (.i r1.2) ?_
  refine Ni ?_
  refine Ws ?_
  refine r_ret ?_
  refine r_then_ret ?_
  refine w_end (x := .tup [.i 0, .i 0, .i 0, .i r1.2]) (f := fun r => .tup [.i r.1, .i r.2.1, .i r.2.2.1, .i r.2.2.2]) (.inr rfl) ?_ (.refl _) (Option.some.inj hM) hS
  exact (res_four (res_tmp (x := .i 0) rfl) (res_tmp (x := .i 0) rfl) (res_tmp (x := .i 0) rfl) (res_tmp (x := .i r1.2) rfl))
 ·replace hM := ifF hM hb2
  refine Cf hb2 ?_
  refine r_skip ?_
  refine Ws ?_
  refine Sq ?_
  refine Rg 5 ?_
  refine Om (pA Box_.cells r1.1) ?_
  refine Of ([.i a0.Wheel.Round, .sl .no 1 (a0.Wheel.Notches.map cI), .sl .no 1 (a0.Wheel.Coins.map cI), .sl .no 1 (a0.Found.map cI), .sl .no 1 (a0.Marked.map cI), .sl .no 1 (a0.Slugs.map cI), .i a0.Plays, .i a0.Skips]) ty_fo26_2 ?_
  refine Olp (.sl .no 1 (a0.Marked.map cI)) ty_agg22 ty_sc22 ?_
  obtain ⟨r3, hr3, hM⟩ := bindE hM
  refine o_call (bs := [pA Box_.cells r1.1, .sl .no 1 (a0.Marked.map cI)]) (by decide) rfl rfl ((W_takings_box_worth hr3).le (.k (.k .nil))) ?_
  refine Oa (.i r3) ?_
  refine Ni ?_
  refine Ws ?_
  refine Sq ?_
  have hS0 := hS
  refine r_draw (n := 15) rfl (by kernel_rfl) ?_
  refine Om (pA Box_.cells r1.1) ?_
  refine Of ([.i a0.Wheel.Round, .sl .no 1 (a0.Wheel.Notches.map cI), .sl .no 1 (a0.Wheel.Coins.map cI), .sl .no 1 (a0.Found.map cI), .sl .no 1 (a0.Marked.map cI), .sl .no 1 (a0.Slugs.map cI), .i a0.Plays, .i a0.Skips]) ty_fo26_1 ?_
  refine Olp (.sl .no 1 (a0.Found.map cI)) ty_agg22 ty_sc22 ?_
  obtain ⟨r4, hr4, hM⟩ := bindE hM
  refine o_call (bs := [pA Box_.cells r1.1, .sl .no 1 (a0.Found.map cI)]) (by decide) rfl rfl ((W_takings_box_worth hr4).le (.k (.k .nil))) ?_
  refine Om (.i r3) ?_
  refine Oi (.i (w64 (r4 - r3))) ?_
  refine Om (.i r3) ?_
  refine Om (pA Box_.cells r1.1) ?_
  refine Of ([.i a0.Wheel.Round, .sl .no 1 (a0.Wheel.Notches.map cI), .sl .no 1 (a0.Wheel.Coins.map cI), .sl .no 1 (a0.Found.map cI), .sl .no 1 (a0.Marked.map cI), .sl .no 1 (a0.Slugs.map cI), .i a0.Plays, .i a0.Skips]) ty_fo26_3 ?_
  refine Olp (.sl .no 1 (a0.Slugs.map cI)) ty_agg22 ty_sc22 ?_
  obtain ⟨r5, hr5, hM⟩ := bindE hM
  refine o_call (bs := [pA Box_.cells r1.1, .sl .no 1 (a0.Slugs.map cI)]) (by decide) rfl rfl ((W_takings_box_worth hr5).le (.k (.k .nil))) ?_
  refine Oa (.i (w64 (r4 - r3))) ?_
  refine Oa (.i r3) ?_
  refine Oa (.i r5) ?_
  refine Oa (.i 0) ?_
  refine Ni ?_
  refine w_next [(2, .i (w64 (r4 - r3))), (3, .i r3), (4, .i r5), (5, .i 0)] (.k (.k (.k (.k .nil)))) ?_
  refine r_ret ?_
  refine w_end (x := .tup [.i (w64 (r4 - r3)), .i r3, .i r5, .i 0]) (f := fun r => .tup [.i r.1, .i r.2.1, .i r.2.2.1, .i r.2.2.2]) (.inr rfl) ?_ (.refl _) (Option.some.inj hM) hS
  exact (res_four (res_tmp (x := .i (w64 (r4 - r3))) rfl) (res_tmp (x := .i r3) rfl) (res_tmp (x := .i r5) rfl) (res_tmp (x := .i 0) rfl))
theorem W_ref01_SameInts {n : Nat} {a0 : List Int} {a1 : List Int} {r : Bool} (hM : ref01_SameInts n a0 a1 = some r) : PureSat Try.prog 21 [.sl .no 1 (a0.map cI), .sl .no 1 (a1.map cI)] (.b r) := by
 refine pure_of_wp mixed Try.func21 rfl (by decide) Try.ntmps21 (by simp) ?pure fun H0 g hf => ?_
 case pure => exact .v _
 rw [frame0_of]
 change wpA _ _ _ _ (Fr.of [(0, .sl .no 1 (a0.map cI)), (1, .sl .no 1 (a1.map cI))]) H0 g
 have hS := St.start hf
 refine Sq ?_
 refine Rg 1 ?_
 refine Oa (.b false) ?_
 refine Ni ?_
 refine Ws ?_
 refine Sq ?_
 refine Sq ?_
 refine Rg 5 ?_
 refine Om (.sl .no 1 (a0.map cI)) ?_
 refine o_len (n := a0.length) (by decide) rfl (List.length_map _) ty_isl22 ?_
 refine Om (.sl .no 1 (a1.map cI)) ?_
 refine o_len (n := a1.length) (by decide) rfl (List.length_map _) ty_isl22 ?_
 refine Oi (.b ((a0.length : Int) != (a1.length : Int))) ?_
 refine Ni ?_
 refine Ws ?_
 rcases bft ((a0.length : Int) != (a1.length : Int)) with hb1 | hb1
 ·replace hM := ifT hM hb1
  refine Ct hb1 ?_
  refine Sq ?_
  refine Rg 1 ?_
  refine Oa (.b false) ?_
  refine Ni ?_
  refine Ws ?_
  refine r_ret ?_
  refine r_then_ret ?_
  refine w_end (x := .b false) (f := fun r => .b r) (.inr rfl) ?_ (.refl _) (Option.some.inj hM) hS
  exact (res_one (res_tmp (x := .b false) rfl))
 ·replace hM := ifF hM hb1
  refine Cf hb1 ?_
  refine r_skip ?_
  refine Ws ?_
  refine w_join (J := Unit) (fun j => []) (fun j H' g' => St (· < g) H0 [] H' g' ∧ ref01_SameInts_j1 = some r) ?_ ?_
  ·rintro _ H g1 ⟨hS, hM⟩
   change wpA _ _ _ _ (Fr.of []) _ _
   replace hS : St (· < g) H0 [] H g1 := hS
   replace hM : ref01_SameInts_j1 = some r := hM
   refine Sq ?_
   refine Rg 1 ?_
   refine Oa (.b true) ?_
   refine Ni ?_
   refine Ws ?_
   refine r_ret ?_
   refine w_end (x := .b true) (f := fun r => .b r) (.inr rfl) ?_ (.refl _) (Option.some.inj hM) hS
   exact (res_one (res_tmp (x := .b true) rfl))
  ·refine Sq ?_
   refine Rg 1 ?_
   refine Oa (.i 0) ?_
   refine Ni ?_
   refine Ws ?_
   refine r_block ?_
   refine w_loop (V := Int) (fun v => [(0, .sl .no 1 (a0.map cI)), (1, .sl .no 1 (a1.map cI)), (5, .i v)]) (fun v m2 H' g' => St (· < g) H0 [] H' g' ∧ ref01_SameInts_l1 a0 a1 m2 v = some r) (n := n) 0 (.k (.k (.k .nil))) ⟨(hS.keep [] rfl).up (by omega), hM⟩ ?_
   rintro v2 m2 H g2 ⟨hS, hM⟩
   obtain _ | m2 := m2
   ·exact nomatch (show none = some _ from hM)
   change wpA _ _ _ _ (Fr.of [(0, .sl .no 1 (a0.map cI)), (1, .sl .no 1 (a1.map cI)), (5, .i v2)]) _ _
   replace hS : St (· < g) H0 [] H g2 := hS
   replace hM : ref01_SameInts_l1_b a0 a1 (ref01_SameInts_l1 a0 a1 m2) v2 = some r := hM
   refine Sq ?_
   refine Sq ?_
   refine Rg 4 ?_
   refine Om (.i v2) ?_
   refine Om (.sl .no 1 (a0.map cI)) ?_
   refine o_len (n := a0.length) (by decide) rfl (List.length_map _) ty_isl22 ?_
   refine Oi (.b (decide (v2 < (a0.length : Int)))) ?_
   refine Ni ?_
   refine Ws ?_
   rcases bft (decide (v2 < (a0.length : Int))) with hb3 | hb3
   ·replace hM := ifT hM hb3
    refine Ct hb3 ?_
    refine r_skip ?_
    refine Ws ?_
    refine Sq ?_
    refine r_block ?_
    refine Sq ?_
    have hS0 := hS
    refine r_draw (n := 9) rfl (by kernel_rfl) ?_
    refine Om (.sl .no 1 (a0.map cI)) ?_
    refine Om (.i v2) ?_
    obtain ⟨x4, hx4, hM⟩ := bindE hM
    refine o_index (xs := a0) (f := cI) (z := v2) (u := x4) (by decide) rfl rfl ty_es22 hx4 ?_
    refine Olp (.i x4) ty_agg3 ty_sc3 ?_
    refine Om (.sl .no 1 (a1.map cI)) ?_
    refine Om (.i v2) ?_
    obtain ⟨x5, hx5, hM⟩ := bindE hM
    refine o_index (xs := a1) (f := cI) (z := v2) (u := x5) (by decide) rfl rfl ty_es22 hx5 ?_
    refine Olp (.i x5) ty_agg3 ty_sc3 ?_
    refine Oi (.b (x4 != x5)) ?_
    refine Ni ?_
    refine Ws ?_
    rcases bft (x4 != x5) with hb6 | hb6
    ·replace hM := ifT hM hb6
     refine Ct hb6 ?_
     refine Sq ?_
     refine Rg 1 ?_
     refine Oa (.b false) ?_
     refine Ni ?_
     refine Ws ?_
     refine r_ret ?_
     refine r_blk_ret ?_
     refine r_then_ret ?_
     refine w_round_ret ?_
     refine r_blk_ret ?_
     refine w_goto_ret ?_
     refine w_end (x := .b false) (f := fun r => .b r) (.inr rfl) ?_ (.refl _) (Option.some.inj hM) hS
     exact (res_one (res_tmp (x := .b false) rfl))
    ·replace hM := ifF hM hb6
     refine Cf hb6 ?_
     refine r_skip ?_
     refine r_blk_normal ?_
     refine Ws ?_
     refine Rg 3 ?_
     refine Om (.i v2) ?_
     refine Oi (.i (w64 (v2 + 1))) ?_
     refine Oa (.i (w64 (v2 + 1))) ?_
     refine Ni ?_
     exact w_round (w64 (v2 + 1)) (Nat.lt_succ_self _) (.k (.k (.k .nil))) ⟨(hS.keep [] rfl).up (by omega), hM⟩
   ·replace hM := ifF hM hb3
    refine Cf hb3 ?_
    refine r_exit ?_
    refine r_then_exit ?_
    refine w_round_exit ?_
    refine r_blk_exit ?_
    exact w_goto () .nil ⟨(hS.keep [] rfl).up (by omega), hM⟩
theorem W_slices_Max_int {n : Nat} {a0 : List Int} {r : Int} (hM : slices_Max_int n a0 = some r) : PureSat Try.prog 73 [.sl .no 1 (a0.map cI)] (.i r) := by
 refine pure_of_wp mixed Try.func73 rfl (by decide) Try.ntmps73 (by simp) ?pure fun H0 g hf => ?_
 case pure => exact .v _
 rw [frame0_of]
 change wpA _ _ _ _ (Fr.of [(0, .sl .no 1 (a0.map cI))]) H0 g
 have hS := St.start hf
 refine Sq ?_
 refine Rg 1 ?_
 refine Oa (.i 0) ?_
 refine Ni ?_
 refine Ws ?_
 refine w_join (J := Unit) (fun j => [(0, .sl .no 1 (a0.map cI))]) (fun j H' g' => St (· < g) H0 [] H' g' ∧ slices_Max_int_j1 n a0 = some r) ?_ ?_
 ·rintro _ H g1 ⟨hS, hM⟩
  change wpA _ _ _ _ (Fr.of [(0, .sl .no 1 (a0.map cI))]) _ _
  replace hS : St (· < g) H0 [] H g1 := hS
  replace hM : slices_Max_int_j1 n a0 = some r := hM
  refine Sq ?_
  refine Rg 4 ?_
  refine Om (.sl .no 1 (a0.map cI)) ?_
  obtain ⟨x1, hx1, hM⟩ := bindE hM
  refine o_index (xs := a0) (f := cI) (z := 0) (u := x1) (by decide) rfl rfl ty_es22 hx1 ?_
  refine Olp (.i x1) ty_agg3 ty_sc3 ?_
  refine Oa (.i x1) ?_
  refine Ni ?_
  refine Ws ?_
  refine w_join (J := Int) (fun j => [(3, .i j)]) (fun j H' g' => St (· < g) H0 [] H' g' ∧ slices_Max_int_j2 j = some r) ?_ ?_
  ·rintro v2 H g2 ⟨hS, hM⟩
   change wpA _ _ _ _ (Fr.of [(3, .i v2)]) _ _
   replace hS : St (· < g) H0 [] H g2 := hS
   replace hM : slices_Max_int_j2 v2 = some r := hM
   refine Sq ?_
   refine Rg 2 ?_
   refine Om (.i v2) ?_
   refine Oa (.i v2) ?_
   refine Ni ?_
   refine Ws ?_
   refine r_ret ?_
   refine w_end (x := .i v2) (f := fun r => .i r) (.inr rfl) ?_ (.refl _) (Option.some.inj hM) hS
   exact (res_one (res_tmp (x := .i v2) rfl))
  ·refine Sq ?_
   refine Rg 1 ?_
   refine Oa (.i 1) ?_
   refine Ni ?_
   refine Ws ?_
   refine r_block ?_
   refine w_loop (V := Int × Int) (fun v => [(0, .sl .no 1 (a0.map cI)), (3, .i v.1), (4, .i v.2)]) (fun v m3 H' g' => St (· < g) H0 [] H' g' ∧ slices_Max_int_l1 a0 m3 v.1 v.2 = some r) (n := n) (x1, 1) (.k (.k (.k .nil))) ⟨(hS.keep [] rfl).up (by omega), hM⟩ ?_
   rintro ⟨v3, v4⟩ m3 H g3 ⟨hS, hM⟩
   obtain _ | m3 := m3
   ·exact nomatch (show none = some _ from hM)
   change wpA _ _ _ _ (Fr.of [(0, .sl .no 1 (a0.map cI)), (3, .i v3), (4, .i v4)]) _ _
   replace hS : St (· < g) H0 [] H g3 := hS
   replace hM : slices_Max_int_l1_b a0 (slices_Max_int_l1 a0 m3) v3 v4 = some r := hM
   refine Sq ?_
   refine Sq ?_
   refine Rg 4 ?_
   refine Om (.i v4) ?_
   refine Om (.sl .no 1 (a0.map cI)) ?_
   refine o_len (n := a0.length) (by decide) rfl (List.length_map _) ty_isl22 ?_
   refine Oi (.b (decide (v4 < (a0.length : Int)))) ?_
   refine Ni ?_
   refine Ws ?_
   rcases bft (decide (v4 < (a0.length : Int))) with hb5 | hb5
   ·replace hM := ifT hM hb5
    refine Ct hb5 ?_
    refine r_skip ?_
    refine Ws ?_
    refine Sq ?_
    refine r_block ?_
    refine Rg 7 ?_
    refine Om (.i v3) ?_
    refine Om (.sl .no 1 (a0.map cI)) ?_
    refine Om (.i v4) ?_
    obtain ⟨x6, hx6, hM⟩ := bindE hM
    refine o_index (xs := a0) (f := cI) (z := v4) (u := x6) (by decide) rfl rfl ty_es22 hx6 ?_
    refine Olp (.i x6) ty_agg3 ty_sc3 ?_
    refine o_max (v := .i (max v3 x6)) (by decide) rfl ?_
    refine Oa (.i (max v3 x6)) ?_
    refine Ni ?_
    refine r_blk_normal ?_
    refine Ws ?_
    refine Rg 3 ?_
    refine Om (.i v4) ?_
    refine Oi (.i (w64 (v4 + 1))) ?_
    refine Oa (.i (w64 (v4 + 1))) ?_
    refine Ni ?_
    exact w_round ((max v3 x6), w64 (v4 + 1)) (Nat.lt_succ_self _) (.k (.k (.k .nil))) ⟨(hS.keep [] rfl).up (by omega), hM⟩
   ·replace hM := ifF hM hb5
    refine Cf hb5 ?_
    refine r_exit ?_
    refine r_then_exit ?_
    refine w_round_exit ?_
    refine r_blk_exit ?_
    exact w_goto v3 (.k .nil) ⟨(hS.keep [] rfl).up (by omega), hM⟩
 ·refine Sq ?_
  refine Rg 3 ?_
  refine Om (.sl .no 1 (a0.map cI)) ?_
  refine o_len (n := a0.length) (by decide) rfl (List.length_map _) ty_isl22 ?_
  refine Oi (.b (decide ((a0.length : Int) < 1))) ?_
  refine Ni ?_
  refine Ws ?_
  rcases bft (decide ((a0.length : Int) < 1)) with hb7 | hb7
  ·replace hM := ifT hM hb7
   refine Ct hb7 ?_
   refine Rg 2 ?_
   exact nomatch (show none = some _ from hM)
  ·replace hM := ifF hM hb7
   refine Cf hb7 ?_
   refine r_skip ?_
   exact w_goto () (.k .nil) ⟨(hS.keep [] rfl).up (by omega), hM⟩
theorem W_takings_Short {n : Nat} {a0 : Box} {r : Int × Int} (hM : takings_Short n a0 = some r) : PureSat Try.prog 39 [.agg [.i a0.Wheel.Round, .sl .no 1 (a0.Wheel.Notches.map cI), .sl .no 1 (a0.Wheel.Coins.map cI), .sl .no 1 (a0.Found.map cI), .sl .no 1 (a0.Marked.map cI), .sl .no 1 (a0.Slugs.map cI), .i a0.Plays, .i a0.Skips]] (.tup [.i r.1, .i r.2]) := by
 refine pure_of_wp mixed Try.func39 rfl (by decide) Try.ntmps39 (by simp) ?pure fun H0 g hf => ?_
 case pure => exact .tup _ (pl_cons (.v _) (pl_cons (.v _) pl_nil))
 rw [frame0_of]
 change wpA _ _ _ _ (Fr.of [(0, .agg [.i a0.Wheel.Round, .sl .no 1 (a0.Wheel.Notches.map cI), .sl .no 1 (a0.Wheel.Coins.map cI), .sl .no 1 (a0.Found.map cI), .sl .no 1 (a0.Marked.map cI), .sl .no 1 (a0.Slugs.map cI), .i a0.Plays, .i a0.Skips])]) H0 g
 have hS := St.start hf
 refine Sq ?_
 refine Rg 3 ?_
 refine o_box (v := .agg [.i a0.Wheel.Round, .sl .no 1 (a0.Wheel.Notches.map cI), .sl .no 1 (a0.Wheel.Coins.map cI), .sl .no 1 (a0.Found.map cI), .sl .no 1 (a0.Marked.map cI), .sl .no 1 (a0.Slugs.map cI), .i a0.Plays, .i a0.Skips]) (cs := [.i a0.Wheel.Round, .sl .no 1 (a0.Wheel.Notches.map cI), .sl .no 1 (a0.Wheel.Coins.map cI), .sl .no 1 (a0.Found.map cI), .sl .no 1 (a0.Marked.map cI), .sl .no 1 (a0.Slugs.map cI), .i a0.Plays, .i a0.Skips]) hS (by decide) rfl rfl (by omega) fun H hS => ?_
 refine Oa (.i 0) ?_
 refine Oa (.i 0) ?_
 refine Ni ?_
 refine w_iceE (L' := []) 0 1 hS rfl rfl rfl fun H hS => ?_
 refine Ws ?_
 refine Sq ?_
 refine Rg 7 ?_
 refine Olg (.agg [.i a0.Wheel.Round, .sl .no 1 (a0.Wheel.Notches.map cI), .sl .no 1 (a0.Wheel.Coins.map cI), .sl .no 1 (a0.Found.map cI), .sl .no 1 (a0.Marked.map cI), .sl .no 1 (a0.Slugs.map cI), .i a0.Plays, .i a0.Skips]) ty_agg26 ?_
 obtain ⟨r1, hr1, hM⟩ := bindE hM
 refine o_call (bs := [.agg [.i a0.Wheel.Round, .sl .no 1 (a0.Wheel.Notches.map cI), .sl .no 1 (a0.Wheel.Coins.map cI), .sl .no 1 (a0.Found.map cI), .sl .no 1 (a0.Marked.map cI), .sl .no 1 (a0.Slugs.map cI), .i a0.Plays, .i a0.Skips]]) (by decide) rfl rfl ((W_takings_open hr1).le (.k .nil)) ?_
 refine Om (.tup [pA Box_.cells r1.1, .i r1.2]) ?_
 refine Ox (pA Box_.cells r1.1) ?_
 refine Ox (.i r1.2) ?_
 refine Oa (pA Box_.cells r1.1) ?_
 refine Oa (.i r1.2) ?_
 refine Ni ?_
 refine Ws ?_
 refine Sq ?_
 refine Sq ?_
 refine Rg 2 ?_
 refine Om (.i r1.2) ?_
 refine Oi (.b (r1.2 != 0)) ?_
 refine Ni ?_
 refine Ws ?_
 rcases bft (r1.2 != 0) with hb2 | hb2
 ·replace hM := ifT hM hb2
  refine Ct hb2 ?_
  refine Sq ?_
  refine Rg 3 ?_
  refine Om (.i r1.2) ?_
  refine Oa (.i 0) ?_
  refine Oa (.i r1.2) ?_
  refine Ni ?_
  refine Ws ?_
  refine r_ret ?_
  refine r_then_ret ?_
  refine w_end (x := .tup [.i 0, .i r1.2]) (f := fun r => .tup [.i r.1, .i r.2]) (.inr rfl) ?_ (.refl _) (Option.some.inj hM) hS
  exact (res_two (res_tmp (x := .i 0) rfl) (res_tmp (x := .i r1.2) rfl))
 ·replace hM := ifF hM hb2
  refine Cf hb2 ?_
  refine r_skip ?_
  refine Ws ?_
  refine Sq ?_
  have hS0 := hS
  refine r_draw (n := 9) rfl (by kernel_rfl) ?_
  refine Of ([.i a0.Wheel.Round, .sl .no 1 (a0.Wheel.Notches.map cI), .sl .no 1 (a0.Wheel.Coins.map cI), .sl .no 1 (a0.Found.map cI), .sl .no 1 (a0.Marked.map cI), .sl .no 1 (a0.Slugs.map cI), .i a0.Plays, .i a0.Skips]) ty_fo26_4 ?_
  refine Olp (.i a0.Plays) ty_agg3 ty_sc3 ?_
  refine Om (pA Box_.cells r1.1) ?_
  obtain ⟨r3, hr3, hM⟩ := bindE hM
  refine o_call (bs := [pA Box_.cells r1.1]) (by decide) rfl rfl ((W_takings_box_can hr3).le (.k .nil)) ?_
  obtain ⟨r4, hr4, hM⟩ := bindE hM
  refine o_call (bs := [.sl .no 1 (r3.map cI)]) (by decide) rfl rfl ((W_slices_Max_int hr4).le (.k .nil)) ?_
  refine Oi (.i (w64 (a0.Plays - r4))) ?_
  refine o_max (v := .i (max 0 (w64 (a0.Plays - r4)))) (by decide) rfl ?_
  refine Oa (.i (max 0 (w64 (a0.Plays - r4)))) ?_
  refine Oa (.i 0) ?_
  refine Ni ?_
  refine w_next [(2, .i (max 0 (w64 (a0.Plays - r4)))), (3, .i 0)] (.k (.k .nil)) ?_
  refine r_ret ?_
  refine w_end (x := .tup [.i (max 0 (w64 (a0.Plays - r4))), .i 0]) (f := fun r => .tup [.i r.1, .i r.2]) (.inr rfl) ?_ (.refl _) (Option.some.inj hM) hS
  exact (res_two (res_tmp (x := .i (max 0 (w64 (a0.Plays - r4)))) rfl) (res_tmp (x := .i 0) rfl))
theorem W_law01_Example {r : Wheel} (hM : law01_Example = some r) : PureSat Try.prog 95 [] (.agg [.i r.Round, .sl .no 1 (r.Notches.map cI), .sl .no 1 (r.Coins.map cI)]) := by
 refine pure_of_wp mixed Try.func95 rfl (by decide) Try.ntmps95 (by simp) ?pure fun H0 g hf => ?_
 case pure => exact .agg _ (pl_cons (.v _) (pl_cons (.sl _ _ (pures_map (fun x => (pl_cons (.v _) pl_nil)))) (pl_cons (.sl _ _ (pures_map (fun x => (pl_cons (.v _) pl_nil)))) pl_nil)))
 rw [frame0_of]
 change wpA _ _ _ _ (Fr.of []) H0 g
 have hS := St.start hf
 refine Sq ?_
 refine Rg 1 ?_
 refine o_alloc hS (by decide) ty_zero24 (by omega) fun H hS => ?_
 refine Ni ?_
 refine Ws ?_
 refine Sq ?_
 refine Rg 4 ?_
 refine o_buildSlice (es := [[.i 10], [.i 20], [.i 25]]) hS (by decide) ty_es22 ty_el22 rfl ty_ef22 rfl (by decide) (by omega) fun H hS => ?_
 refine o_buildSlice (es := [[.i 5], [.i 10], [.i 25]]) hS (by decide) ty_es22 ty_el22 rfl ty_ef22 rfl (by decide) (by omega) fun H hS => ?_
 refine o_build (cs := [.i 50, .sl (.id (g + 1 + 0)) 1 (([10, 20, 25] : List Int).map cI), .sl (.id (g + 1 + 1)) 1 (([5, 10, 25] : List Int).map cI)]) (by decide) ty_zero24 ty_pl24 rfl ?_
 refine o_store (v := .agg [.i 50, .sl (.id (g + 1 + 0)) 1 (([10, 20, 25] : List Int).map cI), .sl (.id (g + 1 + 1)) 1 (([5, 10, 25] : List Int).map cI)]) (ns := [.i 50, .sl (.id (g + 1 + 0)) 1 (([10, 20, 25] : List Int).map cI), .sl (.id (g + 1 + 1)) 1 (([5, 10, 25] : List Int).map cI)]) (L' := [(g + 1 + 1, .row 3 3), (g + 1 + 0, .row 3 3), (g + 0, .cells [.i 50, .sl (.id (g + 1 + 0)) 1 (([10, 20, 25] : List Int).map cI), .sl (.id (g + 1 + 1)) 1 (([5, 10, 25] : List Int).map cI)])]) 2 hS rfl rfl .no rfl rfl ty_var24 nlb rfl fun H hS => ?_
 refine Ni ?_
 refine w_next [(0, .ptr (g + 0) 0)] (.k .nil) ?_
 refine r_ret ?_
 refine w_end (x := .agg [.i 50, .sl (.id (g + 1 + 0)) 1 (([10, 20, 25] : List Int).map cI), .sl (.id (g + 1 + 1)) 1 (([5, 10, 25] : List Int).map cI)]) (f := fun r => .agg [.i r.Round, .sl .no 1 (r.Notches.map cI), .sl .no 1 (r.Coins.map cI)]) (.inr rfl) ?_ (.aggL (.k (.cons (.sl _ _ _) (.cons (.sl _ _ _) .nil)))) (Option.some.inj hM) hS
 exact (res_one (res_cell (x := .agg [.i 50, .sl (.id (g + 1 + 0)) 1 (([10, 20, 25] : List Int).map cI), .sl (.id (g + 1 + 1)) 1 (([5, 10, 25] : List Int).map cI)]) 2 hS rfl rfl (pg ty_agg24)))
theorem W_law05_Example {r : Box} (hM : law05_Example = some r) : PureSat Try.prog 58 [] (.agg [.i r.Wheel.Round, .sl .no 1 (r.Wheel.Notches.map cI), .sl .no 1 (r.Wheel.Coins.map cI), .sl .no 1 (r.Found.map cI), .sl .no 1 (r.Marked.map cI), .sl .no 1 (r.Slugs.map cI), .i r.Plays, .i r.Skips]) := by
 refine pure_of_wp mixed Try.func58 rfl (by decide) Try.ntmps58 (by simp) ?pure fun H0 g hf => ?_
 case pure => exact .agg _ (pl_cons (.v _) (pl_cons (.sl _ _ (pures_map (fun x => (pl_cons (.v _) pl_nil)))) (pl_cons (.sl _ _ (pures_map (fun x => (pl_cons (.v _) pl_nil)))) (pl_cons (.sl _ _ (pures_map (fun x => (pl_cons (.v _) pl_nil)))) (pl_cons (.sl _ _ (pures_map (fun x => (pl_cons (.v _) pl_nil)))) (pl_cons (.sl _ _ (pures_map (fun x => (pl_cons (.v _) pl_nil)))) (pl_cons (.v _) (pl_cons (.v _) pl_nil))))))))
 rw [frame0_of]
 change wpA _ _ _ _ (Fr.of []) H0 g
 have hS := St.start hf
 refine Sq ?_
 refine Rg 1 ?_
 refine o_alloc hS (by decide) ty_zero26 (by omega) fun H hS => ?_
 refine Ni ?_
 refine Ws ?_
 refine Sq ?_
 refine Rg 6 ?_
 obtain ⟨r1, hr1, hM⟩ := bindE hM
 refine o_call (bs := []) (by decide) rfl rfl ((W_law01_Example hr1).le .nil) ?_
 refine o_buildSlice (es := [[.i 0], [.i 2], [.i 1]]) hS (by decide) ty_es22 ty_el22 rfl ty_ef22 rfl (by decide) (by omega) fun H hS => ?_
 refine o_buildSlice (es := [[.i 0], [.i 1], [.i 0]]) hS (by decide) ty_es22 ty_el22 rfl ty_ef22 rfl (by decide) (by omega) fun H hS => ?_
 refine o_buildSlice (es := [[.i 0], [.i 0], [.i 0]]) hS (by decide) ty_es22 ty_el22 rfl ty_ef22 rfl (by decide) (by omega) fun H hS => ?_
 refine o_build (cs := [.i r1.Round, .sl .no 1 (r1.Notches.map cI), .sl .no 1 (r1.Coins.map cI), .sl (.id (g + 1 + 1)) 1 (([0, 2, 1] : List Int).map cI), .sl (.id (g + 1 + 2)) 1 (([0, 1, 0] : List Int).map cI), .sl (.id (g + 1 + 3)) 1 (([0, 0, 0] : List Int).map cI), .i 6, .i 0]) (by decide) ty_zero26 ty_pl26 rfl ?_
 refine o_store (v := .agg [.i r1.Round, .sl .no 1 (r1.Notches.map cI), .sl .no 1 (r1.Coins.map cI), .sl (.id (g + 1 + 1)) 1 (([0, 2, 1] : List Int).map cI), .sl (.id (g + 1 + 2)) 1 (([0, 1, 0] : List Int).map cI), .sl (.id (g + 1 + 3)) 1 (([0, 0, 0] : List Int).map cI), .i 6, .i 0]) (ns := [.i r1.Round, .sl .no 1 (r1.Notches.map cI), .sl .no 1 (r1.Coins.map cI), .sl (.id (g + 1 + 1)) 1 (([0, 2, 1] : List Int).map cI), .sl (.id (g + 1 + 2)) 1 (([0, 1, 0] : List Int).map cI), .sl (.id (g + 1 + 3)) 1 (([0, 0, 0] : List Int).map cI), .i 6, .i 0]) (L' := [(g + 1 + 3, .row 3 3), (g + 1 + 2, .row 3 3), (g + 1 + 1, .row 3 3), (g + 0, .cells [.i r1.Round, .sl .no 1 (r1.Notches.map cI), .sl .no 1 (r1.Coins.map cI), .sl (.id (g + 1 + 1)) 1 (([0, 2, 1] : List Int).map cI), .sl (.id (g + 1 + 2)) 1 (([0, 1, 0] : List Int).map cI), .sl (.id (g + 1 + 3)) 1 (([0, 0, 0] : List Int).map cI), .i 6, .i 0])]) 3 hS rfl rfl .no rfl rfl ty_var26 nlb rfl fun H hS => ?_
 refine Ni ?_
 refine w_next [(0, .ptr (g + 0) 0)] (.k .nil) ?_
 refine r_ret ?_
 refine w_end (x := .agg [.i r1.Round, .sl .no 1 (r1.Notches.map cI), .sl .no 1 (r1.Coins.map cI), .sl (.id (g + 1 + 1)) 1 (([0, 2, 1] : List Int).map cI), .sl (.id (g + 1 + 2)) 1 (([0, 1, 0] : List Int).map cI), .sl (.id (g + 1 + 3)) 1 (([0, 0, 0] : List Int).map cI), .i 6, .i 0]) (f := fun r => .agg [.i r.Wheel.Round, .sl .no 1 (r.Wheel.Notches.map cI), .sl .no 1 (r.Wheel.Coins.map cI), .sl .no 1 (r.Found.map cI), .sl .no 1 (r.Marked.map cI), .sl .no 1 (r.Slugs.map cI), .i r.Plays, .i r.Skips]) (.inr rfl) ?_ (.aggL (.k (.k (.k (.cons (.sl _ _ _) (.cons (.sl _ _ _) (.cons (.sl _ _ _) (.k (.k .nil))))))))) (Option.some.inj hM) hS
 exact (res_one (res_cell (x := .agg [.i r1.Round, .sl .no 1 (r1.Notches.map cI), .sl .no 1 (r1.Coins.map cI), .sl (.id (g + 1 + 1)) 1 (([0, 2, 1] : List Int).map cI), .sl (.id (g + 1 + 2)) 1 (([0, 1, 0] : List Int).map cI), .sl (.id (g + 1 + 3)) 1 (([0, 0, 0] : List Int).map cI), .i 6, .i 0]) 3 hS rfl rfl (pg ty_agg26)))
theorem W_law05_works {n : Nat} {r : Bool} (hM : law05_works n = some r) : PureSat Try.prog 16 [] (.b r) := by
 refine pure_of_wp mixed Try.func16 rfl (by decide) Try.ntmps16 (by simp) ?pure fun H0 g hf => ?_
 case pure => exact .v _
 rw [frame0_of]
 change wpA _ _ _ _ (Fr.of []) H0 g
 have hS := St.start hf
 refine Sq ?_
 refine Rg 1 ?_
 refine Oa (.b false) ?_
 refine Ni ?_
 refine Ws ?_
 refine Sq ?_
 refine Rg 3 ?_
 obtain ⟨r1, hr1, hM⟩ := bindE hM
 refine o_call (bs := []) (by decide) rfl rfl ((W_law05_Example hr1).le .nil) ?_
 refine o_alloc hS (by decide) ty_zero26 (by omega) fun H hS => ?_
 refine o_store (v := .agg [.i r1.Wheel.Round, .sl .no 1 (r1.Wheel.Notches.map cI), .sl .no 1 (r1.Wheel.Coins.map cI), .sl .no 1 (r1.Found.map cI), .sl .no 1 (r1.Marked.map cI), .sl .no 1 (r1.Slugs.map cI), .i r1.Plays, .i r1.Skips]) (ns := [.i r1.Wheel.Round, .sl .no 1 (r1.Wheel.Notches.map cI), .sl .no 1 (r1.Wheel.Coins.map cI), .sl .no 1 (r1.Found.map cI), .sl .no 1 (r1.Marked.map cI), .sl .no 1 (r1.Slugs.map cI), .i r1.Plays, .i r1.Skips]) (L' := [(g + 1 + 1, .cells [.i r1.Wheel.Round, .sl .no 1 (r1.Wheel.Notches.map cI), .sl .no 1 (r1.Wheel.Coins.map cI), .sl .no 1 (r1.Found.map cI), .sl .no 1 (r1.Marked.map cI), .sl .no 1 (r1.Slugs.map cI), .i r1.Plays, .i r1.Skips])]) 0 hS rfl rfl .no rfl rfl ty_var26 nlb rfl fun H hS => ?_
 refine Ni ?_
 refine w_iceE (L' := []) 0 1 hS rfl rfl rfl fun H hS => ?_
 refine Ws ?_
 refine Sq ?_
 refine Rg 7 ?_
 refine Olg (.agg [.i r1.Wheel.Round, .sl .no 1 (r1.Wheel.Notches.map cI), .sl .no 1 (r1.Wheel.Coins.map cI), .sl .no 1 (r1.Found.map cI), .sl .no 1 (r1.Marked.map cI), .sl .no 1 (r1.Slugs.map cI), .i r1.Plays, .i r1.Skips]) ty_agg26 ?_
 obtain ⟨r2, hr2, hM⟩ := bindE hM
 refine o_call (bs := [.agg [.i r1.Wheel.Round, .sl .no 1 (r1.Wheel.Notches.map cI), .sl .no 1 (r1.Wheel.Coins.map cI), .sl .no 1 (r1.Found.map cI), .sl .no 1 (r1.Marked.map cI), .sl .no 1 (r1.Slugs.map cI), .i r1.Plays, .i r1.Skips]]) (by decide) rfl rfl ((W_takings_Can hr2).le (.k .nil)) ?_
 refine Om (.tup [.sl .no 1 (r2.1.map cI), .i r2.2]) ?_
 refine Ox (.sl .no 1 (r2.1.map cI)) ?_
 refine Ox (.i r2.2) ?_
 refine Oa (.sl .no 1 (r2.1.map cI)) ?_
 refine Oa (.i r2.2) ?_
 refine Ni ?_
 refine Ws ?_
 refine Sq ?_
 refine Rg 11 ?_
 refine Olg (.agg [.i r1.Wheel.Round, .sl .no 1 (r1.Wheel.Notches.map cI), .sl .no 1 (r1.Wheel.Coins.map cI), .sl .no 1 (r1.Found.map cI), .sl .no 1 (r1.Marked.map cI), .sl .no 1 (r1.Slugs.map cI), .i r1.Plays, .i r1.Skips]) ty_agg26 ?_
 obtain ⟨r3, hr3, hM⟩ := bindE hM
 refine o_call (bs := [.agg [.i r1.Wheel.Round, .sl .no 1 (r1.Wheel.Notches.map cI), .sl .no 1 (r1.Wheel.Coins.map cI), .sl .no 1 (r1.Found.map cI), .sl .no 1 (r1.Marked.map cI), .sl .no 1 (r1.Slugs.map cI), .i r1.Plays, .i r1.Skips]]) (by decide) rfl rfl ((W_takings_Cash hr3).le (.k .nil)) ?_
 refine Om (.tup [.i r3.1, .i r3.2.1, .i r3.2.2.1, .i r3.2.2.2]) ?_
 refine Ox (.i r3.1) ?_
 refine Ox (.i r3.2.1) ?_
 refine Ox (.i r3.2.2.1) ?_
 refine Ox (.i r3.2.2.2) ?_
 refine Oa (.i r3.1) ?_
 refine Oa (.i r3.2.1) ?_
 refine Oa (.i r3.2.2.1) ?_
 refine Oa (.i r3.2.2.2) ?_
 refine Ni ?_
 refine Ws ?_
 refine Sq ?_
 refine Rg 7 ?_
 refine Olg (.agg [.i r1.Wheel.Round, .sl .no 1 (r1.Wheel.Notches.map cI), .sl .no 1 (r1.Wheel.Coins.map cI), .sl .no 1 (r1.Found.map cI), .sl .no 1 (r1.Marked.map cI), .sl .no 1 (r1.Slugs.map cI), .i r1.Plays, .i r1.Skips]) ty_agg26 ?_
 obtain ⟨r4, hr4, hM⟩ := bindE hM
 refine o_call (bs := [.agg [.i r1.Wheel.Round, .sl .no 1 (r1.Wheel.Notches.map cI), .sl .no 1 (r1.Wheel.Coins.map cI), .sl .no 1 (r1.Found.map cI), .sl .no 1 (r1.Marked.map cI), .sl .no 1 (r1.Slugs.map cI), .i r1.Plays, .i r1.Skips]]) (by decide) rfl rfl ((W_takings_Missing hr4).le (.k .nil)) ?_
 refine Om (.tup [.i r4.1, .i r4.2]) ?_
 refine Ox (.i r4.1) ?_
 refine Ox (.i r4.2) ?_
 refine Oa (.i r4.1) ?_
 refine Oa (.i r4.2) ?_
 refine Ni ?_
 refine Ws ?_
 refine Sq ?_
 refine Rg 7 ?_
 refine Olg (.agg [.i r1.Wheel.Round, .sl .no 1 (r1.Wheel.Notches.map cI), .sl .no 1 (r1.Wheel.Coins.map cI), .sl .no 1 (r1.Found.map cI), .sl .no 1 (r1.Marked.map cI), .sl .no 1 (r1.Slugs.map cI), .i r1.Plays, .i r1.Skips]) ty_agg26 ?_
 obtain ⟨r5, hr5, hM⟩ := bindE hM
 refine o_call (bs := [.agg [.i r1.Wheel.Round, .sl .no 1 (r1.Wheel.Notches.map cI), .sl .no 1 (r1.Wheel.Coins.map cI), .sl .no 1 (r1.Found.map cI), .sl .no 1 (r1.Marked.map cI), .sl .no 1 (r1.Slugs.map cI), .i r1.Plays, .i r1.Skips]]) (by decide) rfl rfl ((W_takings_Short hr5).le (.k .nil)) ?_
 refine Om (.tup [.i r5.1, .i r5.2]) ?_
 refine Ox (.i r5.1) ?_
 refine Ox (.i r5.2) ?_
 refine Oa (.i r5.1) ?_
 refine Oa (.i r5.2) ?_
 refine Ni ?_
 refine Ws ?_
 refine w_join (J := Bool) (fun j => [(0, .b j)]) (fun j H' g' => St (· < g) H0 [] H' g' ∧ law05_works_j1 j = some r) ?_ ?_
 ·rintro v6 H g1 ⟨hS, hM⟩
  change wpA _ _ _ _ (Fr.of [(0, .b v6)]) _ _
  replace hS : St (· < g) H0 [] H g1 := hS
  replace hM : law05_works_j1 v6 = some r := hM
  refine r_ret ?_
  refine w_end (x := .b v6) (f := fun r => .b r) (.inr rfl) ?_ (.refl _) (Option.some.inj hM) hS
  exact (res_one (res_tmp (x := .b v6) rfl))
 ·refine Rg 36 ?_
  refine Om (.i r2.2) ?_
  refine Oi (.b (r2.2 == 0)) ?_
  refine Om (.b (r2.2 == 0)) ?_
  rcases bft (r2.2 == 0) with hb7 | hb7
  ·replace hM := ifT hM hb7
   refine Oy (want := true) hb7 ?_
   refine Om (.i r3.2.2.2) ?_
   refine Oy (want := true) hb7 ?_
   refine Oi (.b (r3.2.2.2 == 0)) ?_
   refine Pt (.b (r3.2.2.2 == 0)) hb7 ?_
   refine Om (.b (r3.2.2.2 == 0)) ?_
   rcases bft (r3.2.2.2 == 0) with hb8 | hb8
   ·replace hM := ifT hM hb8
    refine Oy (want := true) hb8 ?_
    refine Om (.i r4.2) ?_
    refine Oy (want := true) hb8 ?_
    refine Oi (.b (r4.2 == 0)) ?_
    refine Pt (.b (r4.2 == 0)) hb8 ?_
    refine Om (.b (r4.2 == 0)) ?_
    rcases bft (r4.2 == 0) with hb9 | hb9
    ·replace hM := ifT hM hb9
     refine Oy (want := true) hb9 ?_
     refine Om (.i r5.2) ?_
     refine Oy (want := true) hb9 ?_
     refine Oi (.b (r5.2 == 0)) ?_
     refine Pt (.b (r5.2 == 0)) hb9 ?_
     refine Om (.b (r5.2 == 0)) ?_
     rcases bft (r5.2 == 0) with hb10 | hb10
     ·replace hM := ifT hM hb10
      refine Oy (want := true) hb10 ?_
      refine Om (.sl .no 1 (r2.1.map cI)) ?_
      refine Oy (want := true) hb10 ?_
      refine o_buildSlice (es := [[.i 3], [.i 4], [.i 5]]) hS (by decide) ty_es22 ty_el22 rfl ty_ef22 rfl (by decide) (by omega) fun H hS => ?_
      refine Oy (want := true) hb10 ?_
      obtain ⟨r11, hr11, hM⟩ := bindE hM
      refine o_call (bs := [.sl .no 1 (r2.1.map cI), .sl (.id (g + 1 + 3 + 7 + 11 + 7 + 7 + 16)) 1 (([3, 4, 5] : List Int).map cI)]) (by decide) rfl rfl ((W_ref01_SameInts hr11).le (.k (.cons (.sl _ _ _) .nil))) ?_
      refine Pt (.b r11) hb10 ?_
      refine Om (.b r11) ?_
      rcases bft r11 with hb12 | hb12
      ·replace hM := ifT hM hb12
       refine Oy (want := true) hb12 ?_
       refine Om (.i r3.1) ?_
       refine Oy (want := true) hb12 ?_
       refine Oi (.b (r3.1 == 35)) ?_
       refine Pt (.b (r3.1 == 35)) hb12 ?_
       refine Om (.b (r3.1 == 35)) ?_
       rcases bft (r3.1 == 35) with hb13 | hb13
       ·replace hM := ifT hM hb13
        refine Oy (want := true) hb13 ?_
        refine Om (.i r3.2.1) ?_
        refine Oy (want := true) hb13 ?_
        refine Oi (.b (r3.2.1 == 10)) ?_
        refine Pt (.b (r3.2.1 == 10)) hb13 ?_
        refine Om (.b (r3.2.1 == 10)) ?_
        rcases bft (r3.2.1 == 10) with hb14 | hb14
        ·replace hM := ifT hM hb14
         refine Oy (want := true) hb14 ?_
         refine Om (.i r4.1) ?_
         refine Oy (want := true) hb14 ?_
         refine Oi (.b (r4.1 == 5)) ?_
         refine Pt (.b (r4.1 == 5)) hb14 ?_
         refine Om (.b (r4.1 == 5)) ?_
         rcases bft (r4.1 == 5) with hb15 | hb15
         ·replace hM := ifT hM hb15
          refine Oy (want := true) hb15 ?_
          refine Om (.i r5.1) ?_
          refine Oy (want := true) hb15 ?_
          refine Oi (.b (r5.1 == 1)) ?_
          refine Pt (.b (r5.1 == 1)) hb15 ?_
          refine Oa (.b (r5.1 == 1)) ?_
          refine Ni ?_
          exact w_goto (r5.1 == 1) (.k .nil) ⟨(hS.keep [false] rfl).up (by omega), hM⟩
         ·replace hM := ifF hM hb15
          refine On (want := true) hb15 ?_
          refine On (want := true) hb15 ?_
          refine Pf (.b false) hb15 ?_
          refine Oa (.b false) ?_
          refine Ni ?_
          exact w_goto false (.k .nil) ⟨(hS.keep [false] rfl).up (by omega), hM⟩
        ·replace hM := ifF hM hb14
         refine On (want := true) hb14 ?_
         refine On (want := true) hb14 ?_
         refine Pf (.b false) hb14 ?_
         refine Om (.b false) ?_
         refine Og ?_
         refine Og ?_
         refine o_pickF (v := .b false) (e := false) (by decide) rfl rfl rfl ?_
         refine Oa (.b false) ?_
         refine Ni ?_
         exact w_goto false (.k .nil) ⟨(hS.keep [false] rfl).up (by omega), hM⟩
       ·replace hM := ifF hM hb13
        refine On (want := true) hb13 ?_
        refine On (want := true) hb13 ?_
        refine Pf (.b false) hb13 ?_
        refine Om (.b false) ?_
        refine Og ?_
        refine Og ?_
        refine o_pickF (v := .b false) (e := false) (by decide) rfl rfl rfl ?_
        refine Om (.b false) ?_
        refine Og ?_
        refine Og ?_
        refine o_pickF (v := .b false) (e := false) (by decide) rfl rfl rfl ?_
        refine Oa (.b false) ?_
        refine Ni ?_
        exact w_goto false (.k .nil) ⟨(hS.keep [false] rfl).up (by omega), hM⟩
      ·replace hM := ifF hM hb12
       refine On (want := true) hb12 ?_
       refine On (want := true) hb12 ?_
       refine Pf (.b false) hb12 ?_
       refine Om (.b false) ?_
       refine Og ?_
       refine Og ?_
       refine o_pickF (v := .b false) (e := false) (by decide) rfl rfl rfl ?_
       refine Om (.b false) ?_
       refine Og ?_
       refine Og ?_
       refine o_pickF (v := .b false) (e := false) (by decide) rfl rfl rfl ?_
       refine Om (.b false) ?_
       refine Og ?_
       refine Og ?_
       refine o_pickF (v := .b false) (e := false) (by decide) rfl rfl rfl ?_
       refine Oa (.b false) ?_
       refine Ni ?_
       exact w_goto false (.k .nil) ⟨(hS.keep [false] rfl).up (by omega), hM⟩
     ·replace hM := ifF hM hb10
      refine On (want := true) hb10 ?_
      refine On (want := true) hb10 ?_
      refine On (want := true) hb10 ?_
      refine Pf (.b false) hb10 ?_
      refine Om (.b false) ?_
      refine Og ?_
      refine Og ?_
      refine o_pickF (v := .b false) (e := false) (by decide) rfl rfl rfl ?_
      refine Om (.b false) ?_
      refine Og ?_
      refine Og ?_
      refine o_pickF (v := .b false) (e := false) (by decide) rfl rfl rfl ?_
      refine Om (.b false) ?_
      refine Og ?_
      refine Og ?_
      refine o_pickF (v := .b false) (e := false) (by decide) rfl rfl rfl ?_
      refine Om (.b false) ?_
      refine Og ?_
      refine Og ?_
      refine o_pickF (v := .b false) (e := false) (by decide) rfl rfl rfl ?_
      refine Oa (.b false) ?_
      refine Ni ?_
      exact w_goto false (.k .nil) ⟨(hS.keep [] rfl).up (by omega), hM⟩
    ·replace hM := ifF hM hb9
     refine On (want := true) hb9 ?_
     refine On (want := true) hb9 ?_
     refine Pf (.b false) hb9 ?_
     refine Om (.b false) ?_
     refine Og ?_
     refine Og ?_
     refine Og ?_
     refine o_pickF (v := .b false) (e := false) (by decide) rfl rfl rfl ?_
     refine Om (.b false) ?_
     refine Og ?_
     refine Og ?_
     refine o_pickF (v := .b false) (e := false) (by decide) rfl rfl rfl ?_
     refine Om (.b false) ?_
     refine Og ?_
     refine Og ?_
     refine o_pickF (v := .b false) (e := false) (by decide) rfl rfl rfl ?_
     refine Om (.b false) ?_
     refine Og ?_
     refine Og ?_
     refine o_pickF (v := .b false) (e := false) (by decide) rfl rfl rfl ?_
     refine Om (.b false) ?_
     refine Og ?_
     refine Og ?_
     refine o_pickF (v := .b false) (e := false) (by decide) rfl rfl rfl ?_
     refine Oa (.b false) ?_
     refine Ni ?_
     exact w_goto false (.k .nil) ⟨(hS.keep [] rfl).up (by omega), hM⟩
   ·replace hM := ifF hM hb8
    refine On (want := true) hb8 ?_
    refine On (want := true) hb8 ?_
    refine Pf (.b false) hb8 ?_
    refine Om (.b false) ?_
    refine Og ?_
    refine Og ?_
    refine o_pickF (v := .b false) (e := false) (by decide) rfl rfl rfl ?_
    refine Om (.b false) ?_
    refine Og ?_
    refine Og ?_
    refine Og ?_
    refine o_pickF (v := .b false) (e := false) (by decide) rfl rfl rfl ?_
    refine Om (.b false) ?_
    refine Og ?_
    refine Og ?_
    refine o_pickF (v := .b false) (e := false) (by decide) rfl rfl rfl ?_
    refine Om (.b false) ?_
    refine Og ?_
    refine Og ?_
    refine o_pickF (v := .b false) (e := false) (by decide) rfl rfl rfl ?_
    refine Om (.b false) ?_
    refine Og ?_
    refine Og ?_
    refine o_pickF (v := .b false) (e := false) (by decide) rfl rfl rfl ?_
    refine Om (.b false) ?_
    refine Og ?_
    refine Og ?_
    refine o_pickF (v := .b false) (e := false) (by decide) rfl rfl rfl ?_
    refine Oa (.b false) ?_
    refine Ni ?_
    exact w_goto false (.k .nil) ⟨(hS.keep [] rfl).up (by omega), hM⟩
  ·replace hM := ifF hM hb7
   refine On (want := true) hb7 ?_
   refine On (want := true) hb7 ?_
   refine Pf (.b false) hb7 ?_
   refine Om (.b false) ?_
   refine Og ?_
   refine Og ?_
   refine o_pickF (v := .b false) (e := false) (by decide) rfl rfl rfl ?_
   refine Om (.b false) ?_
   refine Og ?_
   refine Og ?_
   refine o_pickF (v := .b false) (e := false) (by decide) rfl rfl rfl ?_
   refine Om (.b false) ?_
   refine Og ?_
   refine Og ?_
   refine Og ?_
   refine o_pickF (v := .b false) (e := false) (by decide) rfl rfl rfl ?_
   refine Om (.b false) ?_
   refine Og ?_
   refine Og ?_
   refine o_pickF (v := .b false) (e := false) (by decide) rfl rfl rfl ?_
   refine Om (.b false) ?_
   refine Og ?_
   refine Og ?_
   refine o_pickF (v := .b false) (e := false) (by decide) rfl rfl rfl ?_
   refine Om (.b false) ?_
   refine Og ?_
   refine Og ?_
   refine o_pickF (v := .b false) (e := false) (by decide) rfl rfl rfl ?_
   refine Om (.b false) ?_
   refine Og ?_
   refine Og ?_
   refine o_pickF (v := .b false) (e := false) (by decide) rfl rfl rfl ?_
   refine Oa (.b false) ?_
   refine Ni ?_
   exact w_goto false (.k .nil) ⟨(hS.keep [] rfl).up (by omega), hM⟩
theorem W_ref01_Copy {a0 : Wheel} {r : Wheel} (hM : ref01_Copy a0 = some r) : PureSat Try.prog 59 [.agg (Wheel.cells a0)] (.agg [.i r.Round, .sl .no 1 (r.Notches.map cI), .sl .no 1 (r.Coins.map cI)]) := by
 refine pure_of_wp mixed Try.func59 rfl (by decide) Try.ntmps59 (by simp) ?pure fun H0 g hf => ?_
 case pure => exact .agg _ (pl_cons (.v _) (pl_cons (.sl _ _ (pures_map (fun x => (pl_cons (.v _) pl_nil)))) (pl_cons (.sl _ _ (pures_map (fun x => (pl_cons (.v _) pl_nil)))) pl_nil)))
 rw [frame0_of]
 change wpA _ _ _ _ (Fr.of [(0, .agg (Wheel.cells a0))]) H0 g
 have hS := St.start hf
 refine Sq ?_
 refine Rg 2 ?_
 refine o_box (v := .agg (Wheel.cells a0)) (cs := (Wheel.cells a0)) hS (by decide) rfl rfl (by omega) fun H hS => ?_
 refine o_alloc hS (by decide) ty_zero24 (by omega) fun H hS => ?_
 refine Ni ?_
 refine w_iceE (L' := [(g + 1, .cells [.i 0, .sl .nil 0 [], .sl .nil 0 []])]) 1 1 hS rfl rfl rfl fun H hS => ?_
 refine Ws ?_
 refine Sq ?_
 have hS0 := hS
 refine r_draw (n := 12) rfl (by kernel_rfl) ?_
 refine Of ((Wheel.cells a0)) ty_fo24_0 ?_
 refine Olp (.i a0.Round) ty_agg3 ty_sc3 ?_
 refine o_buildSlice (es := []) hS (by decide) ty_es22 ty_el22 rfl ty_ef22 rfl (by decide) (by omega) fun H hS => ?_
 refine Of ((Wheel.cells a0)) ty_fo24_1 ?_
 refine Olp (.sl .no 1 (a0.Notches.map cI)) ty_agg22 ty_sc22 ?_
 obtain ⟨l1, hl1, hM⟩ := bindE hM
 refine o_append (xs := ([] : List Int)) (ys := a0.Notches) (zs := l1) (f := cI) (L' := [(g + 2 + 2, .row 3 l1.length), (g + 1, .cells [.i 0, .sl .nil 0 [], .sl .nil 0 []])]) 0 hS (by decide) rfl rfl rfl rfl (.behind (by kernel_rfl)) ty_es22 ty_el22 ty_ef22 hl1 rfl fun H hS => ?_
 refine o_buildSlice (es := []) hS (by decide) ty_es22 ty_el22 rfl ty_ef22 rfl (by decide) (by omega) fun H hS => ?_
 refine Of ((Wheel.cells a0)) ty_fo24_2 ?_
 refine Olp (.sl .no 1 (a0.Coins.map cI)) ty_agg22 ty_sc22 ?_
 obtain ⟨l2, hl2, hM⟩ := bindE hM
 refine o_append (xs := ([] : List Int)) (ys := a0.Coins) (zs := l2) (f := cI) (L' := [(g + 2 + 6, .row 3 l2.length), (g + 2 + 2, .row 3 l1.length), (g + 1, .cells [.i 0, .sl .nil 0 [], .sl .nil 0 []])]) 0 hS (by decide) rfl rfl rfl rfl (.behind (by kernel_rfl)) ty_es22 ty_el22 ty_ef22 hl2 rfl fun H hS => ?_
 refine o_build (cs := [.i a0.Round, .sl (.id (g + 2 + 2)) 1 (l1.map cI), .sl (.id (g + 2 + 6)) 1 (l2.map cI)]) (by decide) ty_zero24 ty_pl24 rfl ?_
 refine o_store (v := .agg [.i a0.Round, .sl (.id (g + 2 + 2)) 1 (l1.map cI), .sl (.id (g + 2 + 6)) 1 (l2.map cI)]) (ns := [.i a0.Round, .sl (.id (g + 2 + 2)) 1 (l1.map cI), .sl (.id (g + 2 + 6)) 1 (l2.map cI)]) (L' := [(g + 2 + 6, .row 3 l2.length), (g + 2 + 2, .row 3 l1.length), (g + 1, .cells [.i a0.Round, .sl (.id (g + 2 + 2)) 1 (l1.map cI), .sl (.id (g + 2 + 6)) 1 (l2.map cI)])]) 2 hS rfl rfl (.st hS0 0 rfl (by omega)) rfl rfl ty_var24 nlb rfl fun H hS => ?_
 refine Ni ?_
 refine w_next [(2, .ptr (g + 1) 0)] (.k .nil) ?_
 refine r_ret ?_
 refine w_end (x := .agg [.i a0.Round, .sl (.id (g + 2 + 2)) 1 (l1.map cI), .sl (.id (g + 2 + 6)) 1 (l2.map cI)]) (f := fun r => .agg [.i r.Round, .sl .no 1 (r.Notches.map cI), .sl .no 1 (r.Coins.map cI)]) (.inr rfl) ?_ (.aggL (.k (.cons (.sl _ _ _) (.cons (.sl _ _ _) .nil)))) (Option.some.inj hM) hS
 exact (res_one (res_cell (x := .agg [.i a0.Round, .sl (.id (g + 2 + 2)) 1 (l1.map cI), .sl (.id (g + 2 + 6)) 1 (l2.map cI)]) 2 hS rfl rfl (pg ty_agg24)))
theorem W_ref05_Copy {a0 : Box} {r : Box} (hM : ref05_Copy a0 = some r) : PureSat Try.prog 17 [.agg [.i a0.Wheel.Round, .sl .no 1 (a0.Wheel.Notches.map cI), .sl .no 1 (a0.Wheel.Coins.map cI), .sl .no 1 (a0.Found.map cI), .sl .no 1 (a0.Marked.map cI), .sl .no 1 (a0.Slugs.map cI), .i a0.Plays, .i a0.Skips]] (.agg [.i r.Wheel.Round, .sl .no 1 (r.Wheel.Notches.map cI), .sl .no 1 (r.Wheel.Coins.map cI), .sl .no 1 (r.Found.map cI), .sl .no 1 (r.Marked.map cI), .sl .no 1 (r.Slugs.map cI), .i r.Plays, .i r.Skips]) := by
 refine pure_of_wp mixed Try.func17 rfl (by decide) Try.ntmps17 (by simp) ?pure fun H0 g hf => ?_
 case pure => exact .agg _ (pl_cons (.v _) (pl_cons (.sl _ _ (pures_map (fun x => (pl_cons (.v _) pl_nil)))) (pl_cons (.sl _ _ (pures_map (fun x => (pl_cons (.v _) pl_nil)))) (pl_cons (.sl _ _ (pures_map (fun x => (pl_cons (.v _) pl_nil)))) (pl_cons (.sl _ _ (pures_map (fun x => (pl_cons (.v _) pl_nil)))) (pl_cons (.sl _ _ (pures_map (fun x => (pl_cons (.v _) pl_nil)))) (pl_cons (.v _) (pl_cons (.v _) pl_nil))))))))
 rw [frame0_of]
 change wpA _ _ _ _ (Fr.of [(0, .agg [.i a0.Wheel.Round, .sl .no 1 (a0.Wheel.Notches.map cI), .sl .no 1 (a0.Wheel.Coins.map cI), .sl .no 1 (a0.Found.map cI), .sl .no 1 (a0.Marked.map cI), .sl .no 1 (a0.Slugs.map cI), .i a0.Plays, .i a0.Skips])]) H0 g
 have hS := St.start hf
 refine Sq ?_
 refine Rg 2 ?_
 refine o_box (v := .agg [.i a0.Wheel.Round, .sl .no 1 (a0.Wheel.Notches.map cI), .sl .no 1 (a0.Wheel.Coins.map cI), .sl .no 1 (a0.Found.map cI), .sl .no 1 (a0.Marked.map cI), .sl .no 1 (a0.Slugs.map cI), .i a0.Plays, .i a0.Skips]) (cs := [.i a0.Wheel.Round, .sl .no 1 (a0.Wheel.Notches.map cI), .sl .no 1 (a0.Wheel.Coins.map cI), .sl .no 1 (a0.Found.map cI), .sl .no 1 (a0.Marked.map cI), .sl .no 1 (a0.Slugs.map cI), .i a0.Plays, .i a0.Skips]) hS (by decide) rfl rfl (by omega) fun H hS => ?_
 refine o_alloc hS (by decide) ty_zero26 (by omega) fun H hS => ?_
 refine Ni ?_
 refine w_iceE (L' := [(g + 1, .cells [.i 0, .sl .nil 0 [], .sl .nil 0 [], .sl .nil 0 [], .sl .nil 0 [], .sl .nil 0 [], .i 0, .i 0])]) 1 1 hS rfl rfl rfl fun H hS => ?_
 refine Ws ?_
 refine Sq ?_
 refine Rg 3 ?_
 refine Olg (.agg [.i a0.Wheel.Round, .sl .no 1 (a0.Wheel.Notches.map cI), .sl .no 1 (a0.Wheel.Coins.map cI), .sl .no 1 (a0.Found.map cI), .sl .no 1 (a0.Marked.map cI), .sl .no 1 (a0.Slugs.map cI), .i a0.Plays, .i a0.Skips]) ty_agg26 ?_
 refine o_alloc hS (by decide) ty_zero26 (by omega) fun H hS => ?_
 refine o_store (v := .agg [.i a0.Wheel.Round, .sl .no 1 (a0.Wheel.Notches.map cI), .sl .no 1 (a0.Wheel.Coins.map cI), .sl .no 1 (a0.Found.map cI), .sl .no 1 (a0.Marked.map cI), .sl .no 1 (a0.Slugs.map cI), .i a0.Plays, .i a0.Skips]) (ns := [.i a0.Wheel.Round, .sl .no 1 (a0.Wheel.Notches.map cI), .sl .no 1 (a0.Wheel.Coins.map cI), .sl .no 1 (a0.Found.map cI), .sl .no 1 (a0.Marked.map cI), .sl .no 1 (a0.Slugs.map cI), .i a0.Plays, .i a0.Skips]) (L' := [(g + 2 + 1, .cells [.i a0.Wheel.Round, .sl .no 1 (a0.Wheel.Notches.map cI), .sl .no 1 (a0.Wheel.Coins.map cI), .sl .no 1 (a0.Found.map cI), .sl .no 1 (a0.Marked.map cI), .sl .no 1 (a0.Slugs.map cI), .i a0.Plays, .i a0.Skips]), (g + 1, .cells [.i 0, .sl .nil 0 [], .sl .nil 0 [], .sl .nil 0 [], .sl .nil 0 [], .sl .nil 0 [], .i 0, .i 0])]) 0 hS rfl rfl .no rfl rfl ty_var26 nlb rfl fun H hS => ?_
 refine Ni ?_
 refine Ws ?_
 refine Sq ?_
 refine Rg 5 ?_
 refine Of ([.i a0.Wheel.Round, .sl .no 1 (a0.Wheel.Notches.map cI), .sl .no 1 (a0.Wheel.Coins.map cI), .sl .no 1 (a0.Found.map cI), .sl .no 1 (a0.Marked.map cI), .sl .no 1 (a0.Slugs.map cI), .i a0.Plays, .i a0.Skips]) ty_fo26_0 ?_
 refine Olg (.agg (Wheel.cells a0.Wheel)) ty_agg24 ?_
 obtain ⟨r1, hr1, hM⟩ := bindE hM
 refine o_call (bs := [.agg (Wheel.cells a0.Wheel)]) (by decide) rfl rfl ((W_ref01_Copy hr1).le (.k .nil)) ?_
 refine o_fieldP (by decide) ty_fo26_0 rfl ?_
 refine o_store (v := .agg (Wheel.cells r1)) (ns := (Wheel.cells r1)) (L' := [(g + 2 + 1, .cells [.i r1.Round, .sl .no 1 (r1.Notches.map cI), .sl .no 1 (r1.Coins.map cI), .sl .no 1 (a0.Found.map cI), .sl .no 1 (a0.Marked.map cI), .sl .no 1 (a0.Slugs.map cI), .i a0.Plays, .i a0.Skips]), (g + 1, .cells [.i 0, .sl .nil 0 [], .sl .nil 0 [], .sl .nil 0 [], .sl .nil 0 [], .sl .nil 0 [], .i 0, .i 0])]) 0 hS rfl rfl .no rfl rfl ty_var24 nlb rfl fun H hS => ?_
 refine Ni ?_
 refine Ws ?_
 refine Sq ?_
 have hS0 := hS
 refine r_draw (n := 18) rfl (by kernel_rfl) ?_
 refine o_buildSlice (es := []) hS (by decide) ty_es22 ty_el22 rfl ty_ef22 rfl (by decide) (by omega) fun H hS => ?_
 refine Of ([.i a0.Wheel.Round, .sl .no 1 (a0.Wheel.Notches.map cI), .sl .no 1 (a0.Wheel.Coins.map cI), .sl .no 1 (a0.Found.map cI), .sl .no 1 (a0.Marked.map cI), .sl .no 1 (a0.Slugs.map cI), .i a0.Plays, .i a0.Skips]) ty_fo26_1 ?_
 refine Olp (.sl .no 1 (a0.Found.map cI)) ty_agg22 ty_sc22 ?_
 obtain ⟨l2, hl2, hM⟩ := bindE hM
 refine o_append (xs := ([] : List Int)) (ys := a0.Found) (zs := l2) (f := cI) (L' := [(g + 2 + 3 + 5 + 0, .row 3 l2.length), (g + 2 + 1, .cells [.i r1.Round, .sl .no 1 (r1.Notches.map cI), .sl .no 1 (r1.Coins.map cI), .sl .no 1 (a0.Found.map cI), .sl .no 1 (a0.Marked.map cI), .sl .no 1 (a0.Slugs.map cI), .i a0.Plays, .i a0.Skips]), (g + 1, .cells [.i 0, .sl .nil 0 [], .sl .nil 0 [], .sl .nil 0 [], .sl .nil 0 [], .sl .nil 0 [], .i 0, .i 0])]) 0 hS (by decide) rfl rfl rfl rfl (.behind (by kernel_rfl)) ty_es22 ty_el22 ty_ef22 hl2 rfl fun H hS => ?_
 refine o_buildSlice (es := []) hS (by decide) ty_es22 ty_el22 rfl ty_ef22 rfl (by decide) (by omega) fun H hS => ?_
 refine Of ([.i a0.Wheel.Round, .sl .no 1 (a0.Wheel.Notches.map cI), .sl .no 1 (a0.Wheel.Coins.map cI), .sl .no 1 (a0.Found.map cI), .sl .no 1 (a0.Marked.map cI), .sl .no 1 (a0.Slugs.map cI), .i a0.Plays, .i a0.Skips]) ty_fo26_2 ?_
 refine Olp (.sl .no 1 (a0.Marked.map cI)) ty_agg22 ty_sc22 ?_
 obtain ⟨l3, hl3, hM⟩ := bindE hM
 refine o_append (xs := ([] : List Int)) (ys := a0.Marked) (zs := l3) (f := cI) (L' := [(g + 2 + 3 + 5 + 4, .row 3 l3.length), (g + 2 + 3 + 5 + 0, .row 3 l2.length), (g + 2 + 1, .cells [.i r1.Round, .sl .no 1 (r1.Notches.map cI), .sl .no 1 (r1.Coins.map cI), .sl .no 1 (a0.Found.map cI), .sl .no 1 (a0.Marked.map cI), .sl .no 1 (a0.Slugs.map cI), .i a0.Plays, .i a0.Skips]), (g + 1, .cells [.i 0, .sl .nil 0 [], .sl .nil 0 [], .sl .nil 0 [], .sl .nil 0 [], .sl .nil 0 [], .i 0, .i 0])]) 0 hS (by decide) rfl rfl rfl rfl (.behind (by kernel_rfl)) ty_es22 ty_el22 ty_ef22 hl3 rfl fun H hS => ?_
 refine o_buildSlice (es := []) hS (by decide) ty_es22 ty_el22 rfl ty_ef22 rfl (by decide) (by omega) fun H hS => ?_
 refine Of ([.i a0.Wheel.Round, .sl .no 1 (a0.Wheel.Notches.map cI), .sl .no 1 (a0.Wheel.Coins.map cI), .sl .no 1 (a0.Found.map cI), .sl .no 1 (a0.Marked.map cI), .sl .no 1 (a0.Slugs.map cI), .i a0.Plays, .i a0.Skips]) ty_fo26_3 ?_
 refine Olp (.sl .no 1 (a0.Slugs.map cI)) ty_agg22 ty_sc22 ?_
 obtain ⟨l4, hl4, hM⟩ := bindE hM
 refine o_append (xs := ([] : List Int)) (ys := a0.Slugs) (zs := l4) (f := cI) (L' := [(g + 2 + 3 + 5 + 8, .row 3 l4.length), (g + 2 + 3 + 5 + 4, .row 3 l3.length), (g + 2 + 3 + 5 + 0, .row 3 l2.length), (g + 2 + 1, .cells [.i r1.Round, .sl .no 1 (r1.Notches.map cI), .sl .no 1 (r1.Coins.map cI), .sl .no 1 (a0.Found.map cI), .sl .no 1 (a0.Marked.map cI), .sl .no 1 (a0.Slugs.map cI), .i a0.Plays, .i a0.Skips]), (g + 1, .cells [.i 0, .sl .nil 0 [], .sl .nil 0 [], .sl .nil 0 [], .sl .nil 0 [], .sl .nil 0 [], .i 0, .i 0])]) 0 hS (by decide) rfl rfl rfl rfl (.behind (by kernel_rfl)) ty_es22 ty_el22 ty_ef22 hl4 rfl fun H hS => ?_
 refine o_fieldP (by decide) ty_fo26_1 rfl ?_
 refine o_store (v := .sl (.id (g + 2 + 3 + 5 + 0)) 1 (l2.map cI)) (ns := [.sl (.id (g + 2 + 3 + 5 + 0)) 1 (l2.map cI)]) (L' := [(g + 2 + 3 + 5 + 8, .row 3 l4.length), (g + 2 + 3 + 5 + 4, .row 3 l3.length), (g + 2 + 3 + 5 + 0, .row 3 l2.length), (g + 2 + 1, .cells [.i r1.Round, .sl .no 1 (r1.Notches.map cI), .sl .no 1 (r1.Coins.map cI), .sl (.id (g + 2 + 3 + 5 + 0)) 1 (l2.map cI), .sl .no 1 (a0.Marked.map cI), .sl .no 1 (a0.Slugs.map cI), .i a0.Plays, .i a0.Skips]), (g + 1, .cells [.i 0, .sl .nil 0 [], .sl .nil 0 [], .sl .nil 0 [], .sl .nil 0 [], .sl .nil 0 [], .i 0, .i 0])]) 3 hS rfl rfl (.st hS0 0 rfl (by omega)) rfl rfl ty_var22 nlb rfl fun H hS => ?_
 refine o_fieldP (by decide) ty_fo26_2 rfl ?_
 refine o_store (v := .sl (.id (g + 2 + 3 + 5 + 4)) 1 (l3.map cI)) (ns := [.sl (.id (g + 2 + 3 + 5 + 4)) 1 (l3.map cI)]) (L' := [(g + 2 + 3 + 5 + 8, .row 3 l4.length), (g + 2 + 3 + 5 + 4, .row 3 l3.length), (g + 2 + 3 + 5 + 0, .row 3 l2.length), (g + 2 + 1, .cells [.i r1.Round, .sl .no 1 (r1.Notches.map cI), .sl .no 1 (r1.Coins.map cI), .sl (.id (g + 2 + 3 + 5 + 0)) 1 (l2.map cI), .sl (.id (g + 2 + 3 + 5 + 4)) 1 (l3.map cI), .sl .no 1 (a0.Slugs.map cI), .i a0.Plays, .i a0.Skips]), (g + 1, .cells [.i 0, .sl .nil 0 [], .sl .nil 0 [], .sl .nil 0 [], .sl .nil 0 [], .sl .nil 0 [], .i 0, .i 0])]) 3 hS rfl rfl (.st hS0 0 rfl (by omega)) rfl rfl ty_var22 nlb rfl fun H hS => ?_
 refine o_fieldP (by decide) ty_fo26_3 rfl ?_
 refine o_store (v := .sl (.id (g + 2 + 3 + 5 + 8)) 1 (l4.map cI)) (ns := [.sl (.id (g + 2 + 3 + 5 + 8)) 1 (l4.map cI)]) (L' := [(g + 2 + 3 + 5 + 8, .row 3 l4.length), (g + 2 + 3 + 5 + 4, .row 3 l3.length), (g + 2 + 3 + 5 + 0, .row 3 l2.length), (g + 2 + 1, .cells [.i r1.Round, .sl .no 1 (r1.Notches.map cI), .sl .no 1 (r1.Coins.map cI), .sl (.id (g + 2 + 3 + 5 + 0)) 1 (l2.map cI), .sl (.id (g + 2 + 3 + 5 + 4)) 1 (l3.map cI), .sl (.id (g + 2 + 3 + 5 + 8)) 1 (l4.map cI), .i a0.Plays, .i a0.Skips]), (g + 1, .cells [.i 0, .sl .nil 0 [], .sl .nil 0 [], .sl .nil 0 [], .sl .nil 0 [], .sl .nil 0 [], .i 0, .i 0])]) 3 hS rfl rfl (.st hS0 0 rfl (by omega)) rfl rfl ty_var22 nlb rfl fun H hS => ?_
 refine Ni ?_
 refine Ws ?_
 refine Sq ?_
 refine Rg 2 ?_
 refine o_load (v := .agg [.i r1.Round, .sl .no 1 (r1.Notches.map cI), .sl .no 1 (r1.Coins.map cI), .sl (.id (g + 2 + 3 + 5 + 0)) 1 (l2.map cI), .sl (.id (g + 2 + 3 + 5 + 4)) 1 (l3.map cI), .sl (.id (g + 2 + 3 + 5 + 8)) 1 (l4.map cI), .i a0.Plays, .i a0.Skips]) 3 hS (by decide) rfl rfl .no (pg ty_agg26) ?_
 refine o_store (v := .agg [.i r1.Round, .sl .no 1 (r1.Notches.map cI), .sl .no 1 (r1.Coins.map cI), .sl (.id (g + 2 + 3 + 5 + 0)) 1 (l2.map cI), .sl (.id (g + 2 + 3 + 5 + 4)) 1 (l3.map cI), .sl (.id (g + 2 + 3 + 5 + 8)) 1 (l4.map cI), .i a0.Plays, .i a0.Skips]) (ns := [.i r1.Round, .sl .no 1 (r1.Notches.map cI), .sl .no 1 (r1.Coins.map cI), .sl (.id (g + 2 + 3 + 5 + 0)) 1 (l2.map cI), .sl (.id (g + 2 + 3 + 5 + 4)) 1 (l3.map cI), .sl (.id (g + 2 + 3 + 5 + 8)) 1 (l4.map cI), .i a0.Plays, .i a0.Skips]) (L' := [(g + 2 + 3 + 5 + 8, .row 3 l4.length), (g + 2 + 3 + 5 + 4, .row 3 l3.length), (g + 2 + 3 + 5 + 0, .row 3 l2.length), (g + 2 + 1, .cells [.i r1.Round, .sl .no 1 (r1.Notches.map cI), .sl .no 1 (r1.Coins.map cI), .sl (.id (g + 2 + 3 + 5 + 0)) 1 (l2.map cI), .sl (.id (g + 2 + 3 + 5 + 4)) 1 (l3.map cI), .sl (.id (g + 2 + 3 + 5 + 8)) 1 (l4.map cI), .i a0.Plays, .i a0.Skips]), (g + 1, .cells [.i r1.Round, .sl .no 1 (r1.Notches.map cI), .sl .no 1 (r1.Coins.map cI), .sl (.id (g + 2 + 3 + 5 + 0)) 1 (l2.map cI), .sl (.id (g + 2 + 3 + 5 + 4)) 1 (l3.map cI), .sl (.id (g + 2 + 3 + 5 + 8)) 1 (l4.map cI), .i a0.Plays, .i a0.Skips])]) 4 hS rfl rfl .no rfl rfl ty_var26 nlb rfl fun H hS => ?_
 refine Ni ?_
 replace hS := hS.keep (L' := [(g + 2 + 3 + 5 + 8, .row 3 l4.length), (g + 2 + 3 + 5 + 4, .row 3 l3.length), (g + 2 + 3 + 5 + 0, .row 3 l2.length), (g + 1, .cells [.i r1.Round, .sl .no 1 (r1.Notches.map cI), .sl .no 1 (r1.Coins.map cI), .sl (.id (g + 2 + 3 + 5 + 0)) 1 (l2.map cI), .sl (.id (g + 2 + 3 + 5 + 4)) 1 (l3.map cI), .sl (.id (g + 2 + 3 + 5 + 8)) 1 (l4.map cI), .i a0.Plays, .i a0.Skips])]) [true, true, true, false, true] rfl
 refine w_next [(2, .ptr (g + 1) 0)] (.k .nil) ?_
 refine r_ret ?_
 refine w_end (x := .agg [.i r1.Round, .sl .no 1 (r1.Notches.map cI), .sl .no 1 (r1.Coins.map cI), .sl (.id (g + 2 + 3 + 5 + 0)) 1 (l2.map cI), .sl (.id (g + 2 + 3 + 5 + 4)) 1 (l3.map cI), .sl (.id (g + 2 + 3 + 5 + 8)) 1 (l4.map cI), .i a0.Plays, .i a0.Skips]) (f := fun r => .agg [.i r.Wheel.Round, .sl .no 1 (r.Wheel.Notches.map cI), .sl .no 1 (r.Wheel.Coins.map cI), .sl .no 1 (r.Found.map cI), .sl .no 1 (r.Marked.map cI), .sl .no 1 (r.Slugs.map cI), .i r.Plays, .i r.Skips]) (.inr rfl) ?_ (.aggL (.k (.k (.k (.cons (.sl _ _ _) (.cons (.sl _ _ _) (.cons (.sl _ _ _) (.k (.k .nil))))))))) (Option.some.inj hM) hS
 exact (res_one (res_cell (x := .agg [.i r1.Round, .sl .no 1 (r1.Notches.map cI), .sl .no 1 (r1.Coins.map cI), .sl (.id (g + 2 + 3 + 5 + 0)) 1 (l2.map cI), .sl (.id (g + 2 + 3 + 5 + 4)) 1 (l3.map cI), .sl (.id (g + 2 + 3 + 5 + 8)) 1 (l4.map cI), .i a0.Plays, .i a0.Skips]) 3 hS rfl rfl (pg ty_agg26)))
theorem W_law05_isKnown {a0 : Int} {r : Bool} (hM : law05_isKnown a0 = some r) : PureSat Try.prog 22 [.i a0] (.b r) := by
 refine pure_of_wp mixed Try.func22 rfl (by decide) Try.ntmps22 (by simp) ?pure fun H0 g hf => ?_
 case pure => exact .v _
 rw [frame0_of]
 change wpA _ _ _ _ (Fr.of [(0, .i a0)]) H0 g
 have hS := St.start hf
 refine Sq ?_
 refine Rg 1 ?_
 refine Oa (.b false) ?_
 refine Ni ?_
 refine Ws ?_
 refine w_join (J := Bool) (fun j => [(2, .b j)]) (fun j H' g' => St (· < g) H0 [] H' g' ∧ law05_isKnown_j1 j = some r) ?_ ?_
 ·rintro v1 H g1 ⟨hS, hM⟩
  change wpA _ _ _ _ (Fr.of [(2, .b v1)]) _ _
  replace hS : St (· < g) H0 [] H g1 := hS
  replace hM : law05_isKnown_j1 v1 = some r := hM
  refine r_ret ?_
  refine w_end (x := .b v1) (f := fun r => .b r) (.inr rfl) ?_ (.refl _) (Option.some.inj hM) hS
  exact (res_one (res_tmp (x := .b v1) rfl))
 ·refine Rg 7 ?_
  refine Om (.i a0) ?_
  refine Oi (.b (a0 == 0)) ?_
  refine Om (.b (a0 == 0)) ?_
  rcases bft (a0 == 0) with hb2 | hb2
  ·replace hM := ifT hM hb2
   refine On (want := false) hb2 ?_
   refine On (want := false) hb2 ?_
   refine Pt (.b true) hb2 ?_
   refine Oa (.b true) ?_
   refine Ni ?_
   exact w_goto true (.k .nil) ⟨(hS.keep [] rfl).up (by omega), hM⟩
  ·replace hM := ifF hM hb2
   refine Oy (want := false) hb2 ?_
   refine Om (.i a0) ?_
   refine Oy (want := false) hb2 ?_
   refine Oi (.b (a0 == 3)) ?_
   refine Pf (.b (a0 == 3)) hb2 ?_
   refine Oa (.b (a0 == 3)) ?_
   refine Ni ?_
   exact w_goto (a0 == 3) (.k .nil) ⟨(hS.keep [] rfl).up (by omega), hM⟩
theorem W_takings_Skipped {n : Nat} {a0 : Box} {r : Int × Int} (hM : takings_Skipped n a0 = some r) : PureSat Try.prog 37 [.agg [.i a0.Wheel.Round, .sl .no 1 (a0.Wheel.Notches.map cI), .sl .no 1 (a0.Wheel.Coins.map cI), .sl .no 1 (a0.Found.map cI), .sl .no 1 (a0.Marked.map cI), .sl .no 1 (a0.Slugs.map cI), .i a0.Plays, .i a0.Skips]] (.tup [.i r.1, .i r.2]) := by
 refine pure_of_wp mixed Try.func37 rfl (by decide) Try.ntmps37 (by simp) ?pure fun H0 g hf => ?_
 case pure => exact .tup _ (pl_cons (.v _) (pl_cons (.v _) pl_nil))
 rw [frame0_of]
 change wpA _ _ _ _ (Fr.of [(0, .agg [.i a0.Wheel.Round, .sl .no 1 (a0.Wheel.Notches.map cI), .sl .no 1 (a0.Wheel.Coins.map cI), .sl .no 1 (a0.Found.map cI), .sl .no 1 (a0.Marked.map cI), .sl .no 1 (a0.Slugs.map cI), .i a0.Plays, .i a0.Skips])]) H0 g
 have hS := St.start hf
 refine Sq ?_
 refine Rg 3 ?_
 refine o_box (v := .agg [.i a0.Wheel.Round, .sl .no 1 (a0.Wheel.Notches.map cI), .sl .no 1 (a0.Wheel.Coins.map cI), .sl .no 1 (a0.Found.map cI), .sl .no 1 (a0.Marked.map cI), .sl .no 1 (a0.Slugs.map cI), .i a0.Plays, .i a0.Skips]) (cs := [.i a0.Wheel.Round, .sl .no 1 (a0.Wheel.Notches.map cI), .sl .no 1 (a0.Wheel.Coins.map cI), .sl .no 1 (a0.Found.map cI), .sl .no 1 (a0.Marked.map cI), .sl .no 1 (a0.Slugs.map cI), .i a0.Plays, .i a0.Skips]) hS (by decide) rfl rfl (by omega) fun H hS => ?_
 refine Oa (.i 0) ?_
 refine Oa (.i 0) ?_
 refine Ni ?_
 refine w_iceE (L' := []) 0 1 hS rfl rfl rfl fun H hS => ?_
 refine Ws ?_
 refine Sq ?_
 refine Rg 7 ?_
 refine Olg (.agg [.i a0.Wheel.Round, .sl .no 1 (a0.Wheel.Notches.map cI), .sl .no 1 (a0.Wheel.Coins.map cI), .sl .no 1 (a0.Found.map cI), .sl .no 1 (a0.Marked.map cI), .sl .no 1 (a0.Slugs.map cI), .i a0.Plays, .i a0.Skips]) ty_agg26 ?_
 obtain ⟨r1, hr1, hM⟩ := bindE hM
 refine o_call (bs := [.agg [.i a0.Wheel.Round, .sl .no 1 (a0.Wheel.Notches.map cI), .sl .no 1 (a0.Wheel.Coins.map cI), .sl .no 1 (a0.Found.map cI), .sl .no 1 (a0.Marked.map cI), .sl .no 1 (a0.Slugs.map cI), .i a0.Plays, .i a0.Skips]]) (by decide) rfl rfl ((W_takings_open hr1).le (.k .nil)) ?_
 refine Om (.tup [pA Box_.cells r1.1, .i r1.2]) ?_
 refine Ox (pA Box_.cells r1.1) ?_
 refine Ox (.i r1.2) ?_
 refine Oa (pA Box_.cells r1.1) ?_
 refine Oa (.i r1.2) ?_
 refine Ni ?_
 refine Ws ?_
 refine Sq ?_
 refine Sq ?_
 refine Rg 2 ?_
 refine Om (.i r1.2) ?_
 refine Oi (.b (r1.2 != 0)) ?_
 refine Ni ?_
 refine Ws ?_
 rcases bft (r1.2 != 0) with hb2 | hb2
 ·replace hM := ifT hM hb2
  refine Ct hb2 ?_
  refine Sq ?_
  refine Rg 3 ?_
  refine Om (.i r1.2) ?_
  refine Oa (.i 0) ?_
  refine Oa (.i r1.2) ?_
  refine Ni ?_
  refine Ws ?_
  refine r_ret ?_
  refine r_then_ret ?_
  refine w_end (x := .tup [.i 0, .i r1.2]) (f := fun r => .tup [.i r.1, .i r.2]) (.inr rfl) ?_ (.refl _) (Option.some.inj hM) hS
  exact (res_two (res_tmp (x := .i 0) rfl) (res_tmp (x := .i r1.2) rfl))
 ·replace hM := ifF hM hb2
  refine Cf hb2 ?_
  refine r_skip ?_
  refine Ws ?_
  refine w_join (J := Unit) (fun j => []) (fun j H' g' => St (· < g) H0 [] H' g' ∧ takings_Skipped_j1 = some r) ?_ ?_
  ·rintro _ H g1 ⟨hS, hM⟩
   change wpA _ _ _ _ (Fr.of []) _ _
   replace hS : St (· < g) H0 [] H g1 := hS
   replace hM : takings_Skipped_j1 = some r := hM
   refine Sq ?_
   refine Rg 2 ?_
   refine Oa (.i 0) ?_
   refine Oa (.i 3) ?_
   refine Ni ?_
   refine Ws ?_
   refine r_ret ?_
   refine w_end (x := .tup [.i 0, .i 3]) (f := fun r => .tup [.i r.1, .i r.2]) (.inr rfl) ?_ (.refl _) (Option.some.inj hM) hS
   exact (res_two (res_tmp (x := .i 0) rfl) (res_tmp (x := .i 3) rfl))
  ·refine Sq ?_
   refine Rg 4 ?_
   refine Om (pA Box_.cells r1.1) ?_
   obtain ⟨r3, hr3, hM⟩ := bindE hM
   refine o_call (bs := [pA Box_.cells r1.1]) (by decide) rfl rfl ((W_takings_box_can hr3).le (.k .nil)) ?_
   refine o_len (n := r3.length) (by decide) rfl (List.length_map _) ty_isl22 ?_
   refine Om (.i 0) ?_
   refine Ni ?_
   refine Ws ?_
   refine r_block ?_
   refine w_loop (V := Int) (fun v => [(1, .ep [.i a0.Wheel.Round, .sl .no 1 (a0.Wheel.Notches.map cI), .sl .no 1 (a0.Wheel.Coins.map cI), .sl .no 1 (a0.Found.map cI), .sl .no 1 (a0.Marked.map cI), .sl .no 1 (a0.Slugs.map cI), .i a0.Plays, .i a0.Skips]), (17, .sl .no 1 (r3.map cI)), (18, .i (r3.length : Int)), (19, .i v)]) (fun v m2 H' g' => St (· < g) H0 [] H' g' ∧ takings_Skipped_l1 a0 r3 m2 v = some r) (n := n) 0 (.k (.k (.k (.k .nil)))) ⟨(hS.keep [] rfl).up (by omega), hM⟩ ?_
   rintro v4 m2 H g2 ⟨hS, hM⟩
   obtain _ | m2 := m2
   ·exact nomatch (show none = some _ from hM)
   change wpA _ _ _ _ (Fr.of [(1, .ep [.i a0.Wheel.Round, .sl .no 1 (a0.Wheel.Notches.map cI), .sl .no 1 (a0.Wheel.Coins.map cI), .sl .no 1 (a0.Found.map cI), .sl .no 1 (a0.Marked.map cI), .sl .no 1 (a0.Slugs.map cI), .i a0.Plays, .i a0.Skips]), (17, .sl .no 1 (r3.map cI)), (18, .i (r3.length : Int)), (19, .i v4)]) _ _
   replace hS : St (· < g) H0 [] H g2 := hS
   replace hM : takings_Skipped_l1_b a0 r3 (takings_Skipped_l1 a0 r3 m2) v4 = some r := hM
   refine Sq ?_
   refine Rg 1 ?_
   refine Oi (.b (decide (v4 < (r3.length : Int)))) ?_
   refine Ni ?_
   refine Ws ?_
   refine Sq ?_
   rcases bft (decide (v4 < (r3.length : Int))) with hb5 | hb5
   ·replace hM := ifT hM hb5
    refine Ct hb5 ?_
    refine r_skip ?_
    refine Ws ?_
    refine Sq ?_
    refine r_block ?_
    refine Sq ?_
    refine Rg 3 ?_
    obtain ⟨x6, hx6, hM⟩ := bindE hM
    refine o_index (xs := r3) (f := cI) (z := v4) (u := x6) (by decide) rfl rfl ty_es22 hx6 ?_
    refine Olp (.i x6) ty_agg3 ty_sc3 ?_
    refine Oa (.i x6) ?_
    refine Ni ?_
    refine Ws ?_
    refine Sq ?_
    refine Rg 4 ?_
    refine Om (.i x6) ?_
    refine Of ([.i a0.Wheel.Round, .sl .no 1 (a0.Wheel.Notches.map cI), .sl .no 1 (a0.Wheel.Coins.map cI), .sl .no 1 (a0.Found.map cI), .sl .no 1 (a0.Marked.map cI), .sl .no 1 (a0.Slugs.map cI), .i a0.Plays, .i a0.Skips]) ty_fo26_4 ?_
    refine Olp (.i a0.Plays) ty_agg3 ty_sc3 ?_
    refine Oi (.b (decide (x6 ≥ a0.Plays))) ?_
    refine Ni ?_
    refine Ws ?_
    rcases bft (decide (x6 ≥ a0.Plays)) with hb7 | hb7
    ·replace hM := ifT hM hb7
     refine Ct hb7 ?_
     refine Sq ?_
     refine Rg 6 ?_
     refine Om (.i x6) ?_
     refine Of ([.i a0.Wheel.Round, .sl .no 1 (a0.Wheel.Notches.map cI), .sl .no 1 (a0.Wheel.Coins.map cI), .sl .no 1 (a0.Found.map cI), .sl .no 1 (a0.Marked.map cI), .sl .no 1 (a0.Slugs.map cI), .i a0.Plays, .i a0.Skips]) ty_fo26_4 ?_
     refine Olp (.i a0.Plays) ty_agg3 ty_sc3 ?_
     refine Oi (.i (w64 (x6 - a0.Plays))) ?_
     refine Oa (.i (w64 (x6 - a0.Plays))) ?_
     refine Oa (.i 0) ?_
     refine Ni ?_
     refine Ws ?_
     refine r_ret ?_
     refine r_blk_ret ?_
     refine r_then_ret ?_
     refine w_round_ret ?_
     refine r_blk_ret ?_
     refine w_goto_ret ?_
     refine w_end (x := .tup [.i (w64 (x6 - a0.Plays)), .i 0]) (f := fun r => .tup [.i r.1, .i r.2]) (.inr rfl) ?_ (.refl _) (Option.some.inj hM) hS
     exact (res_two (res_tmp (x := .i (w64 (x6 - a0.Plays))) rfl) (res_tmp (x := .i 0) rfl))
    ·replace hM := ifF hM hb7
     refine Cf hb7 ?_
     refine r_skip ?_
     refine r_blk_normal ?_
     refine Ws ?_
     refine Rg 2 ?_
     refine Oi (.i (w64 (v4 + 1))) ?_
     refine Om (.i (w64 (v4 + 1))) ?_
     refine Ni ?_
     exact w_round (w64 (v4 + 1)) (Nat.lt_succ_self _) (.k (.k (.k (.k .nil)))) ⟨(hS.keep [] rfl).up (by omega), hM⟩
   ·replace hM := ifF hM hb5
    refine Cf hb5 ?_
    refine r_exit ?_
    refine r_then_exit ?_
    refine w_round_exit ?_
    refine r_blk_exit ?_
    exact w_goto () .nil ⟨(hS.keep [] rfl).up (by omega), hM⟩
theorem W_law05_TakingsShort {n : Nat} {a0 : Box} {r : Bool} (hM : law05_TakingsShort n a0 = some r) : PureSat Try.prog 8 [.agg [.i a0.Wheel.Round, .sl .no 1 (a0.Wheel.Notches.map cI), .sl .no 1 (a0.Wheel.Coins.map cI), .sl .no 1 (a0.Found.map cI), .sl .no 1 (a0.Marked.map cI), .sl .no 1 (a0.Slugs.map cI), .i a0.Plays, .i a0.Skips]] (.b r) := by
 refine pure_of_wp mixed Try.func8 rfl (by decide) Try.ntmps8 (by simp) ?pure fun H0 g hf => ?_
 case pure => exact .v _
 rw [frame0_of]
 change wpA _ _ _ _ (Fr.of [(0, .agg [.i a0.Wheel.Round, .sl .no 1 (a0.Wheel.Notches.map cI), .sl .no 1 (a0.Wheel.Coins.map cI), .sl .no 1 (a0.Found.map cI), .sl .no 1 (a0.Marked.map cI), .sl .no 1 (a0.Slugs.map cI), .i a0.Plays, .i a0.Skips])]) H0 g
 have hS := St.start hf
 refine Sq ?_
 refine Rg 2 ?_
 refine o_box (v := .agg [.i a0.Wheel.Round, .sl .no 1 (a0.Wheel.Notches.map cI), .sl .no 1 (a0.Wheel.Coins.map cI), .sl .no 1 (a0.Found.map cI), .sl .no 1 (a0.Marked.map cI), .sl .no 1 (a0.Slugs.map cI), .i a0.Plays, .i a0.Skips]) (cs := [.i a0.Wheel.Round, .sl .no 1 (a0.Wheel.Notches.map cI), .sl .no 1 (a0.Wheel.Coins.map cI), .sl .no 1 (a0.Found.map cI), .sl .no 1 (a0.Marked.map cI), .sl .no 1 (a0.Slugs.map cI), .i a0.Plays, .i a0.Skips]) hS (by decide) rfl rfl (by omega) fun H hS => ?_
 refine Oa (.b false) ?_
 refine Ni ?_
 refine w_iceE (L' := []) 0 1 hS rfl rfl rfl fun H hS => ?_
 refine Ws ?_
 refine Sq ?_
 refine Sq ?_
 refine Rg 3 ?_
 refine Olg (.agg [.i a0.Wheel.Round, .sl .no 1 (a0.Wheel.Notches.map cI), .sl .no 1 (a0.Wheel.Coins.map cI), .sl .no 1 (a0.Found.map cI), .sl .no 1 (a0.Marked.map cI), .sl .no 1 (a0.Slugs.map cI), .i a0.Plays, .i a0.Skips]) ty_agg26 ?_
 obtain ⟨r1, hr1, hM⟩ := bindE hM
 refine o_call (bs := [.agg [.i a0.Wheel.Round, .sl .no 1 (a0.Wheel.Notches.map cI), .sl .no 1 (a0.Wheel.Coins.map cI), .sl .no 1 (a0.Found.map cI), .sl .no 1 (a0.Marked.map cI), .sl .no 1 (a0.Slugs.map cI), .i a0.Plays, .i a0.Skips]]) (by decide) rfl rfl ((W_law05_ready hr1).le (.k .nil)) ?_
 refine o_not (e := r1) (by decide) rfl ?_
 refine Ni ?_
 refine Ws ?_
 rcases bft (!r1) with hb2 | hb2
 ·replace hM := ifT hM hb2
  refine Ct hb2 ?_
  refine Sq ?_
  refine Rg 2 ?_
  obtain ⟨r3, hr3, hM⟩ := bindE hM
  refine o_call (bs := []) (by decide) rfl rfl ((W_law05_works hr3).le .nil) ?_
  refine Oa (.b r3) ?_
  refine Ni ?_
  refine Ws ?_
  refine r_ret ?_
  refine r_then_ret ?_
  refine w_end (x := .b r3) (f := fun r => .b r) (.inr rfl) ?_ (.refl _) (Option.some.inj hM) hS
  exact (res_one (res_tmp (x := .b r3) rfl))
 ·replace hM := ifF hM hb2
  refine Cf hb2 ?_
  refine r_skip ?_
  refine Ws ?_
  refine Sq ?_
  refine Rg 7 ?_
  refine Olg (.agg [.i a0.Wheel.Round, .sl .no 1 (a0.Wheel.Notches.map cI), .sl .no 1 (a0.Wheel.Coins.map cI), .sl .no 1 (a0.Found.map cI), .sl .no 1 (a0.Marked.map cI), .sl .no 1 (a0.Slugs.map cI), .i a0.Plays, .i a0.Skips]) ty_agg26 ?_
  obtain ⟨r4, hr4, hM⟩ := bindE hM
  refine o_call (bs := [.agg [.i a0.Wheel.Round, .sl .no 1 (a0.Wheel.Notches.map cI), .sl .no 1 (a0.Wheel.Coins.map cI), .sl .no 1 (a0.Found.map cI), .sl .no 1 (a0.Marked.map cI), .sl .no 1 (a0.Slugs.map cI), .i a0.Plays, .i a0.Skips]]) (by decide) rfl rfl ((W_takings_Skipped hr4).le (.k .nil)) ?_
  refine Om (.tup [.i r4.1, .i r4.2]) ?_
  refine Ox (.i r4.1) ?_
  refine Ox (.i r4.2) ?_
  refine Oa (.i r4.1) ?_
  refine Oa (.i r4.2) ?_
  refine Ni ?_
  refine Ws ?_
  refine Sq ?_
  refine Rg 7 ?_
  refine Olg (.agg [.i a0.Wheel.Round, .sl .no 1 (a0.Wheel.Notches.map cI), .sl .no 1 (a0.Wheel.Coins.map cI), .sl .no 1 (a0.Found.map cI), .sl .no 1 (a0.Marked.map cI), .sl .no 1 (a0.Slugs.map cI), .i a0.Plays, .i a0.Skips]) ty_agg26 ?_
  obtain ⟨r5, hr5, hM⟩ := bindE hM
  refine o_call (bs := [.agg [.i a0.Wheel.Round, .sl .no 1 (a0.Wheel.Notches.map cI), .sl .no 1 (a0.Wheel.Coins.map cI), .sl .no 1 (a0.Found.map cI), .sl .no 1 (a0.Marked.map cI), .sl .no 1 (a0.Slugs.map cI), .i a0.Plays, .i a0.Skips]]) (by decide) rfl rfl ((W_takings_Short hr5).le (.k .nil)) ?_
  refine Om (.tup [.i r5.1, .i r5.2]) ?_
  refine Ox (.i r5.1) ?_
  refine Ox (.i r5.2) ?_
  refine Oa (.i r5.1) ?_
  refine Oa (.i r5.2) ?_
  refine Ni ?_
  refine Ws ?_
  refine Sq ?_
  refine w_join (J := Bool) (fun j => [(1, .ep [.i a0.Wheel.Round, .sl .no 1 (a0.Wheel.Notches.map cI), .sl .no 1 (a0.Wheel.Coins.map cI), .sl .no 1 (a0.Found.map cI), .sl .no 1 (a0.Marked.map cI), .sl .no 1 (a0.Slugs.map cI), .i a0.Plays, .i a0.Skips]), (3, .i r4.1), (4, .i r4.2), (47, .b j)]) (fun j H' g' => St (· < g) H0 [] H' g' ∧ law05_TakingsShort_j1 n a0 r4 j = some r) ?_ ?_
  ·rintro v6 H g1 ⟨hS, hM⟩
   change wpA _ _ _ _ (Fr.of [(1, .ep [.i a0.Wheel.Round, .sl .no 1 (a0.Wheel.Notches.map cI), .sl .no 1 (a0.Wheel.Coins.map cI), .sl .no 1 (a0.Found.map cI), .sl .no 1 (a0.Marked.map cI), .sl .no 1 (a0.Slugs.map cI), .i a0.Plays, .i a0.Skips]), (3, .i r4.1), (4, .i r4.2), (47, .b v6)]) _ _
   replace hS : St (· < g) H0 [] H g1 := hS
   replace hM : law05_TakingsShort_j1 n a0 r4 v6 = some r := hM
   rcases bft v6 with hb7 | hb7
   ·replace hM := ifT hM hb7
    refine Ct hb7 ?_
    refine Sq ?_
    refine Rg 1 ?_
    refine Oa (.b false) ?_
    refine Ni ?_
    refine Ws ?_
    refine r_ret ?_
    refine r_then_ret ?_
    refine w_end (x := .b false) (f := fun r => .b r) (.inr rfl) ?_ (.refl _) (Option.some.inj hM) hS
    exact (res_one (res_tmp (x := .b false) rfl))
   ·replace hM := ifF hM hb7
    refine Cf hb7 ?_
    refine r_skip ?_
    refine Ws ?_
    refine Sq ?_
    refine w_join (J := Bool) (fun j => [(1, .ep [.i a0.Wheel.Round, .sl .no 1 (a0.Wheel.Notches.map cI), .sl .no 1 (a0.Wheel.Coins.map cI), .sl .no 1 (a0.Found.map cI), .sl .no 1 (a0.Marked.map cI), .sl .no 1 (a0.Slugs.map cI), .i a0.Plays, .i a0.Skips]), (3, .i r4.1), (53, .b j)]) (fun j H' g' => St (· < g) H0 [] H' g' ∧ law05_TakingsShort_j2 n a0 r4 j = some r) ?_ ?_
    ·rintro v8 H g2 ⟨hS, hM⟩
     change wpA _ _ _ _ (Fr.of [(1, .ep [.i a0.Wheel.Round, .sl .no 1 (a0.Wheel.Notches.map cI), .sl .no 1 (a0.Wheel.Coins.map cI), .sl .no 1 (a0.Found.map cI), .sl .no 1 (a0.Marked.map cI), .sl .no 1 (a0.Slugs.map cI), .i a0.Plays, .i a0.Skips]), (3, .i r4.1), (53, .b v8)]) _ _
     replace hS : St (· < g) H0 [] H g2 := hS
     replace hM : law05_TakingsShort_j2 n a0 r4 v8 = some r := hM
     rcases bft v8 with hb9 | hb9
     ·replace hM := ifT hM hb9
      refine Ct hb9 ?_
      refine Sq ?_
      refine Rg 2 ?_
      obtain ⟨r10, hr10, hM⟩ := bindE hM
      refine o_call (bs := []) (by decide) rfl rfl ((W_law05_works hr10).le .nil) ?_
      refine Oa (.b r10) ?_
      refine Ni ?_
      refine Ws ?_
      refine r_ret ?_
      refine r_then_ret ?_
      refine w_end (x := .b r10) (f := fun r => .b r) (.inr rfl) ?_ (.refl _) (Option.some.inj hM) hS
      exact (res_one (res_tmp (x := .b r10) rfl))
     ·replace hM := ifF hM hb9
      refine Cf hb9 ?_
      refine r_skip ?_
      refine Ws ?_
      refine Sq ?_
      refine Rg 4 ?_
      refine Olg (.agg [.i a0.Wheel.Round, .sl .no 1 (a0.Wheel.Notches.map cI), .sl .no 1 (a0.Wheel.Coins.map cI), .sl .no 1 (a0.Found.map cI), .sl .no 1 (a0.Marked.map cI), .sl .no 1 (a0.Slugs.map cI), .i a0.Plays, .i a0.Skips]) ty_agg26 ?_
      obtain ⟨r11, hr11, hM⟩ := bindE hM
      refine o_call (bs := [.agg [.i a0.Wheel.Round, .sl .no 1 (a0.Wheel.Notches.map cI), .sl .no 1 (a0.Wheel.Coins.map cI), .sl .no 1 (a0.Found.map cI), .sl .no 1 (a0.Marked.map cI), .sl .no 1 (a0.Slugs.map cI), .i a0.Plays, .i a0.Skips]]) (by decide) rfl rfl ((W_ref05_Copy hr11).le (.k .nil)) ?_
      refine o_alloc hS (by decide) ty_zero26 (by omega) fun H hS => ?_
      refine o_store (v := .agg [.i r11.Wheel.Round, .sl .no 1 (r11.Wheel.Notches.map cI), .sl .no 1 (r11.Wheel.Coins.map cI), .sl .no 1 (r11.Found.map cI), .sl .no 1 (r11.Marked.map cI), .sl .no 1 (r11.Slugs.map cI), .i r11.Plays, .i r11.Skips]) (ns := [.i r11.Wheel.Round, .sl .no 1 (r11.Wheel.Notches.map cI), .sl .no 1 (r11.Wheel.Coins.map cI), .sl .no 1 (r11.Found.map cI), .sl .no 1 (r11.Marked.map cI), .sl .no 1 (r11.Slugs.map cI), .i r11.Plays, .i r11.Skips]) (L' := [(g2 + 2, .cells [.i r11.Wheel.Round, .sl .no 1 (r11.Wheel.Notches.map cI), .sl .no 1 (r11.Wheel.Coins.map cI), .sl .no 1 (r11.Found.map cI), .sl .no 1 (r11.Marked.map cI), .sl .no 1 (r11.Slugs.map cI), .i r11.Plays, .i r11.Skips])]) 0 hS rfl rfl .no rfl rfl ty_var26 nlb rfl fun H hS => ?_
      refine Ni ?_
      refine Ws ?_
      refine Sq ?_
      refine Rg 3 ?_
      refine Om (.i r4.1) ?_
      refine o_fieldP (by decide) ty_fo26_5 rfl ?_
      refine o_store (v := .i r4.1) (ns := [.i r4.1]) (L' := [(g2 + 2, .cells [.i r11.Wheel.Round, .sl .no 1 (r11.Wheel.Notches.map cI), .sl .no 1 (r11.Wheel.Coins.map cI), .sl .no 1 (r11.Found.map cI), .sl .no 1 (r11.Marked.map cI), .sl .no 1 (r11.Slugs.map cI), .i r11.Plays, .i r4.1])]) 0 hS rfl rfl .no rfl rfl ty_var3 nlb rfl fun H hS => ?_
      refine Ni ?_
      refine Ws ?_
      refine Sq ?_
      refine Sq ?_
      refine Rg 7 ?_
      refine o_load (v := .agg [.i r11.Wheel.Round, .sl .no 1 (r11.Wheel.Notches.map cI), .sl .no 1 (r11.Wheel.Coins.map cI), .sl .no 1 (r11.Found.map cI), .sl .no 1 (r11.Marked.map cI), .sl .no 1 (r11.Slugs.map cI), .i r11.Plays, .i r4.1]) 0 hS (by decide) rfl rfl .no (pg ty_agg26) ?_
      obtain ⟨r12, hr12, hM⟩ := bindE hM
      refine o_call (bs := [.agg [.i r11.Wheel.Round, .sl .no 1 (r11.Wheel.Notches.map cI), .sl .no 1 (r11.Wheel.Coins.map cI), .sl .no 1 (r11.Found.map cI), .sl .no 1 (r11.Marked.map cI), .sl .no 1 (r11.Slugs.map cI), .i r11.Plays, .i r4.1]]) (by decide) rfl rfl ((W_takings_Missing hr12).le (.k .nil)) ?_
      refine Om (.tup [.i r12.1, .i r12.2]) ?_
      refine Ox (.i r12.1) ?_
      refine Ox (.i r12.2) ?_
      refine Oa (.i r12.1) ?_
      refine Oa (.i r12.2) ?_
      refine Ni ?_
      refine Ws ?_
      refine w_join (J := Bool) (fun j => [(3, .i r4.1), (7, .ptr (g2 + 2) 0), (69, .b j)]) (fun j H' g' => St (· < g) H0 [(g2 + 2, .cells [.i r11.Wheel.Round, .sl .no 1 (r11.Wheel.Notches.map cI), .sl .no 1 (r11.Wheel.Coins.map cI), .sl .no 1 (r11.Found.map cI), .sl .no 1 (r11.Marked.map cI), .sl .no 1 (r11.Slugs.map cI), .i r11.Plays, .i r4.1])] H' g' ∧ law05_TakingsShort_j3 n r4 r11 j = some r) ?_ ?_
      ·rintro v13 H g3 ⟨hS, hM⟩
       change wpA _ _ _ _ (Fr.of [(3, .i r4.1), (7, .ptr (g2 + 2) 0), (69, .b v13)]) _ _
       replace hS : St (· < g) H0 [(g2 + 2, .cells [.i r11.Wheel.Round, .sl .no 1 (r11.Wheel.Notches.map cI), .sl .no 1 (r11.Wheel.Coins.map cI), .sl .no 1 (r11.Found.map cI), .sl .no 1 (r11.Marked.map cI), .sl .no 1 (r11.Slugs.map cI), .i r11.Plays, .i r4.1])] H g3 := hS
       replace hM : law05_TakingsShort_j3 n r4 r11 v13 = some r := hM
       rcases bft v13 with hb14 | hb14
       ·replace hM := ifT hM hb14
        refine Ct hb14 ?_
        refine Sq ?_
        refine Rg 1 ?_
        refine Oa (.b false) ?_
        refine Ni ?_
        replace hS := hS.keep (L' := []) [false] rfl
        refine Ws ?_
        refine r_ret ?_
        refine r_then_ret ?_
        refine w_end (x := .b false) (f := fun r => .b r) (.inr rfl) ?_ (.refl _) (Option.some.inj hM) hS
        exact (res_one (res_tmp (x := .b false) rfl))
       ·replace hM := ifF hM hb14
        refine Cf hb14 ?_
        refine r_skip ?_
        refine Ws ?_
        refine Sq ?_
        refine Sq ?_
        refine Rg 2 ?_
        refine Om (.i r4.1) ?_
        refine Oi (.b (r4.1 == 0)) ?_
        refine Ni ?_
        refine Ws ?_
        rcases bft (r4.1 == 0) with hb15 | hb15
        ·replace hM := ifT hM hb15
         refine Ct hb15 ?_
         refine Sq ?_
         refine Rg 2 ?_
         obtain ⟨r16, hr16, hM⟩ := bindE hM
         refine o_call (bs := []) (by decide) rfl rfl ((W_law05_works hr16).le .nil) ?_
         refine Oa (.b r16) ?_
         refine Ni ?_
         replace hS := hS.keep (L' := []) [false] rfl
         refine Ws ?_
         refine r_ret ?_
         refine r_then_ret ?_
         refine w_end (x := .b r16) (f := fun r => .b r) (.inr rfl) ?_ (.refl _) (Option.some.inj hM) hS
         exact (res_one (res_tmp (x := .b r16) rfl))
        ·replace hM := ifF hM hb15
         refine Cf hb15 ?_
         refine r_skip ?_
         refine Ws ?_
         refine Sq ?_
         refine Rg 4 ?_
         refine Om (.i r4.1) ?_
         refine Oi (.i (w64 (r4.1 - 1))) ?_
         refine o_fieldP (by decide) ty_fo26_5 rfl ?_
         refine o_store (v := .i (w64 (r4.1 - 1))) (ns := [.i (w64 (r4.1 - 1))]) (L' := [(g2 + 2, .cells [.i r11.Wheel.Round, .sl .no 1 (r11.Wheel.Notches.map cI), .sl .no 1 (r11.Wheel.Coins.map cI), .sl .no 1 (r11.Found.map cI), .sl .no 1 (r11.Marked.map cI), .sl .no 1 (r11.Slugs.map cI), .i r11.Plays, .i (w64 (r4.1 - 1))])]) 0 hS rfl rfl .no rfl rfl ty_var3 nlb rfl fun H hS => ?_
         refine Ni ?_
         refine Ws ?_
         refine Sq ?_
         refine Rg 7 ?_
         refine o_load (v := .agg [.i r11.Wheel.Round, .sl .no 1 (r11.Wheel.Notches.map cI), .sl .no 1 (r11.Wheel.Coins.map cI), .sl .no 1 (r11.Found.map cI), .sl .no 1 (r11.Marked.map cI), .sl .no 1 (r11.Slugs.map cI), .i r11.Plays, .i (w64 (r4.1 - 1))]) 0 hS (by decide) rfl rfl .no (pg ty_agg26) ?_
         obtain ⟨r17, hr17, hM⟩ := bindE hM
         refine o_call (bs := [.agg [.i r11.Wheel.Round, .sl .no 1 (r11.Wheel.Notches.map cI), .sl .no 1 (r11.Wheel.Coins.map cI), .sl .no 1 (r11.Found.map cI), .sl .no 1 (r11.Marked.map cI), .sl .no 1 (r11.Slugs.map cI), .i r11.Plays, .i (w64 (r4.1 - 1))]]) (by decide) rfl rfl ((W_takings_Missing hr17).le (.k .nil)) ?_
         refine Om (.tup [.i r17.1, .i r17.2]) ?_
         refine Ox (.i r17.1) ?_
         refine Ox (.i r17.2) ?_
         refine Oa (.i r17.1) ?_
         refine Oa (.i r17.2) ?_
         refine Ni ?_
         replace hS := hS.keep (L' := []) [false] rfl
         refine Ws ?_
         refine w_join (J := Bool) (fun j => [(2, .b j)]) (fun j H' g' => St (· < g) H0 [] H' g' ∧ law05_TakingsShort_j4 j = some r) ?_ ?_
         ·rintro v18 H g4 ⟨hS, hM⟩
          change wpA _ _ _ _ (Fr.of [(2, .b v18)]) _ _
          replace hS : St (· < g) H0 [] H g4 := hS
          replace hM : law05_TakingsShort_j4 v18 = some r := hM
          refine r_ret ?_
          refine w_end (x := .b v18) (f := fun r => .b r) (.inr rfl) ?_ (.refl _) (Option.some.inj hM) hS
          exact (res_one (res_tmp (x := .b v18) rfl))
         ·refine Rg 14 ?_
          refine Om (.i r17.2) ?_
          obtain ⟨r19, hr19, hM⟩ := bindE hM
          refine o_call (bs := [.i r17.2]) (by decide) rfl rfl ((W_law05_isKnown hr19).le (.k .nil)) ?_
          refine Om (.b r19) ?_
          rcases bft r19 with hb20 | hb20
          ·replace hM := ifT hM hb20
           refine Oy (want := true) hb20 ?_
           refine Om (.i r17.2) ?_
           refine Oy (want := true) hb20 ?_
           refine Oi (.b (r17.2 != 0)) ?_
           refine Oy (want := true) hb20 ?_
           refine Om (.b (r17.2 != 0)) ?_
           rcases bft (r17.2 != 0) with hb21 | hb21
           ·replace hM := ifT hM hb21
            refine On (want := false) hb21 ?_
            refine On (want := false) hb21 ?_
            refine Oy (want := true) hb20 ?_
            refine Pt (.b true) hb21 ?_
            refine Pt (.b true) hb20 ?_
            refine Om (.b true) ?_
            refine Oz ?_
            obtain ⟨r22, hr22, hM⟩ := bindE hM
            refine o_call (bs := []) (by decide) rfl rfl ((W_law05_works hr22).le .nil) ?_
            refine o_pickT (v := .b r22) (e := true) (by decide) rfl rfl rfl ?_
            refine Oa (.b r22) ?_
            refine Ni ?_
            exact w_goto r22 (.k .nil) ⟨(hS.keep [] rfl).up (by omega), hM⟩
           ·replace hM := ifF hM hb21
            refine Oy (want := false) hb21 ?_
            refine Om (.i r17.1) ?_
            refine Oy (want := false) hb21 ?_
            refine Oi (.b (decide (r17.1 > 0))) ?_
            refine Oy (want := true) hb20 ?_
            refine Pf (.b (decide (r17.1 > 0))) hb21 ?_
            refine Pt (.b (decide (r17.1 > 0))) hb20 ?_
            refine Om (.b (decide (r17.1 > 0))) ?_
            rcases bft (decide (r17.1 > 0)) with hb23 | hb23
            ·replace hM := ifT hM hb23
             refine Oy (want := true) hb23 ?_
             obtain ⟨r24, hr24, hM⟩ := bindE hM
             refine o_call (bs := []) (by decide) rfl rfl ((W_law05_works hr24).le .nil) ?_
             refine Pt (.b r24) hb23 ?_
             refine Oa (.b r24) ?_
             refine Ni ?_
             exact w_goto r24 (.k .nil) ⟨(hS.keep [] rfl).up (by omega), hM⟩
            ·replace hM := ifF hM hb23
             refine On (want := true) hb23 ?_
             refine Pf (.b false) hb23 ?_
             refine Oa (.b false) ?_
             refine Ni ?_
             exact w_goto false (.k .nil) ⟨(hS.keep [] rfl).up (by omega), hM⟩
          ·replace hM := ifF hM hb20
           refine On (want := true) hb20 ?_
           refine On (want := true) hb20 ?_
           refine On (want := true) hb20 ?_
           refine o_guardU (j := 5) (by decide) rfl ?_
           refine o_guardU (j := 5) (by decide) rfl ?_
           refine On (want := true) hb20 ?_
           refine Pf (.b false) hb20 ?_
           refine Om (.b false) ?_
           refine Og ?_
           refine o_pickF (v := .b false) (e := false) (by decide) rfl rfl rfl ?_
           refine Oa (.b false) ?_
           refine Ni ?_
           exact w_goto false (.k .nil) ⟨(hS.keep [] rfl).up (by omega), hM⟩
      ·refine Rg 6 ?_
       refine Om (.i r12.2) ?_
       refine Oi (.b (r12.2 != 0)) ?_
       refine Om (.b (r12.2 != 0)) ?_
       rcases bft (r12.2 != 0) with hb25 | hb25
       ·replace hM := ifT hM hb25
        refine On (want := false) hb25 ?_
        refine On (want := false) hb25 ?_
        refine Pt (.b true) hb25 ?_
        refine Ni ?_
        exact w_goto true (.k (.k (.k .nil))) ⟨(hS.keep [true] rfl).up (by omega), hM⟩
       ·replace hM := ifF hM hb25
        refine Oy (want := false) hb25 ?_
        refine Om (.i r12.1) ?_
        refine Oy (want := false) hb25 ?_
        refine Oi (.b (r12.1 != 0)) ?_
        refine Pf (.b (r12.1 != 0)) hb25 ?_
        refine Ni ?_
        exact w_goto (r12.1 != 0) (.k (.k (.k .nil))) ⟨(hS.keep [true] rfl).up (by omega), hM⟩
    ·refine Rg 6 ?_
     refine Om (.i r4.2) ?_
     refine Oi (.b (r4.2 != 0)) ?_
     refine Om (.b (r4.2 != 0)) ?_
     rcases bft (r4.2 != 0) with hb26 | hb26
     ·replace hM := ifT hM hb26
      refine On (want := false) hb26 ?_
      refine On (want := false) hb26 ?_
      refine Pt (.b true) hb26 ?_
      refine Ni ?_
      exact w_goto true (.k (.k (.k .nil))) ⟨(hS.keep [] rfl).up (by omega), hM⟩
     ·replace hM := ifF hM hb26
      refine Oy (want := false) hb26 ?_
      refine Om (.i r4.1) ?_
      refine Oy (want := false) hb26 ?_
      refine Oi (.b (decide (r4.1 > 9))) ?_
      refine Pf (.b (decide (r4.1 > 9))) hb26 ?_
      refine Ni ?_
      exact w_goto (decide (r4.1 > 9)) (.k (.k (.k .nil))) ⟨(hS.keep [] rfl).up (by omega), hM⟩
  ·refine Rg 22 ?_
   refine Om (.i r4.2) ?_
   obtain ⟨r27, hr27, hM⟩ := bindE hM
   refine o_call (bs := [.i r4.2]) (by decide) rfl rfl ((W_law05_isKnown hr27).le (.k .nil)) ?_
   refine o_not (e := r27) (by decide) rfl ?_
   refine Om (.b (!r27)) ?_
   rcases bft (!r27) with hb28 | hb28
   ·replace hM := ifT hM hb28
    refine On (want := false) hb28 ?_
    refine On (want := false) hb28 ?_
    refine Pt (.b true) hb28 ?_
    refine Om (.b true) ?_
    refine Og ?_
    refine Og ?_
    refine o_pickT (v := .b true) (e := true) (by decide) rfl rfl rfl ?_
    refine Om (.b true) ?_
    refine Og ?_
    refine Og ?_
    refine o_pickT (v := .b true) (e := true) (by decide) rfl rfl rfl ?_
    refine Om (.b true) ?_
    refine Og ?_
    refine Og ?_
    refine Og ?_
    refine Og ?_
    refine Og ?_
    refine o_pickT (v := .b true) (e := true) (by decide) rfl rfl rfl ?_
    refine Ni ?_
    exact w_goto true (.k (.k (.k (.k .nil)))) ⟨(hS.keep [] rfl).up (by omega), hM⟩
   ·replace hM := ifF hM hb28
    refine Oy (want := false) hb28 ?_
    refine Om (.i r5.2) ?_
    refine Oy (want := false) hb28 ?_
    refine Oi (.b (r5.2 != 0)) ?_
    refine Pf (.b (r5.2 != 0)) hb28 ?_
    refine Om (.b (r5.2 != 0)) ?_
    rcases bft (r5.2 != 0) with hb29 | hb29
    ·replace hM := ifT hM hb29
     refine On (want := false) hb29 ?_
     refine On (want := false) hb29 ?_
     refine Pt (.b true) hb29 ?_
     refine Om (.b true) ?_
     refine Og ?_
     refine Og ?_
     refine o_pickT (v := .b true) (e := true) (by decide) rfl rfl rfl ?_
     refine Om (.b true) ?_
     refine Og ?_
     refine Og ?_
     refine Og ?_
     refine Og ?_
     refine Og ?_
     refine o_pickT (v := .b true) (e := true) (by decide) rfl rfl rfl ?_
     refine Ni ?_
     exact w_goto true (.k (.k (.k (.k .nil)))) ⟨(hS.keep [] rfl).up (by omega), hM⟩
    ·replace hM := ifF hM hb29
     refine Oy (want := false) hb29 ?_
     refine Om (.i r5.1) ?_
     refine Oy (want := false) hb29 ?_
     refine Oi (.b (decide (r5.1 < 0))) ?_
     refine Pf (.b (decide (r5.1 < 0))) hb29 ?_
     refine Om (.b (decide (r5.1 < 0))) ?_
     rcases bft (decide (r5.1 < 0)) with hb30 | hb30
     ·replace hM := ifT hM hb30
      refine On (want := false) hb30 ?_
      refine On (want := false) hb30 ?_
      refine Pt (.b true) hb30 ?_
      refine Om (.b true) ?_
      refine Og ?_
      refine Og ?_
      refine Og ?_
      refine Og ?_
      refine Og ?_
      refine o_pickT (v := .b true) (e := true) (by decide) rfl rfl rfl ?_
      refine Ni ?_
      exact w_goto true (.k (.k (.k (.k .nil)))) ⟨(hS.keep [] rfl).up (by omega), hM⟩
     ·replace hM := ifF hM hb30
      refine Oy (want := false) hb30 ?_
      refine Om (.i r4.1) ?_
      refine Oy (want := false) hb30 ?_
      refine Oi (.b (decide (r4.1 < 0))) ?_
      refine Pf (.b (decide (r4.1 < 0))) hb30 ?_
      refine Om (.b (decide (r4.1 < 0))) ?_
      rcases bft (decide (r4.1 < 0)) with hb31 | hb31
      ·replace hM := ifT hM hb31
       refine On (want := false) hb31 ?_
       refine On (want := false) hb31 ?_
       refine On (want := false) hb31 ?_
       refine On (want := false) hb31 ?_
       refine On (want := false) hb31 ?_
       refine Pt (.b true) hb31 ?_
       refine Ni ?_
       exact w_goto true (.k (.k (.k (.k .nil)))) ⟨(hS.keep [] rfl).up (by omega), hM⟩
      ·replace hM := ifF hM hb31
       refine Oy (want := false) hb31 ?_
       refine Om (.i r5.1) ?_
       refine Oy (want := false) hb31 ?_
       refine Oi (.b (r5.1 == 0)) ?_
       refine Oy (want := false) hb31 ?_
       refine Om (.i r4.2) ?_
       refine Oy (want := false) hb31 ?_
       refine Oi (.b (r4.2 == 0)) ?_
       refine Oy (want := false) hb31 ?_
       refine o_neB (m := (r5.1 == 0)) (n := (r4.2 == 0)) (by decide) rfl rfl ty_bool4 ?_
       refine Pf (.b (!((r5.1 == 0) == (r4.2 == 0)))) hb31 ?_
       refine Ni ?_
       exact w_goto (!((r5.1 == 0) == (r4.2 == 0))) (.k (.k (.k (.k .nil)))) ⟨(hS.keep [] rfl).up (by omega), hM⟩
end Go.Proofs.Ytenogpmlhpcibaa
