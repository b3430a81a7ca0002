/-
  The code returns what the functions say (printed by gen.py).
  Conditions: none.
-/
import Derived.Test.YtenogpmlhpcibaaWkTakingsJoined2
import Derived.Test.YtenogpmlhpcibaaSh
import Derived.Test.YtenogpmlhpcibaaKs
import Derived.Test.YtenogpmlhpcibaaEn
set_option linter.all false
namespace Go.Proofs.Ytenogpmlhpcibaa
open Go Go.AM Go.Law
set_option linter.unusedVariables false
set_option maxRecDepth 4000
set_option maxHeartbeats 4000000
theorem W_takings_Cash {n : Nat} {a0 : Box} {r : Int × Int × Int × Int} (hM : takings_Cash n a0 = some r) : PureSat Try.prog 20 [.agg [.i a0.Wheel.Round, .sl .no 1 (a0.Wheel.Notches.map cI), .sl .no 1 (a0.Wheel.Coins.map cI), .sl .no 1 (a0.Found.map cI), .sl .no 1 (a0.Marked.map cI), .sl .no 1 (a0.Slugs.map cI), .i a0.Plays, .i a0.Skips]] (.tup [.i r.1, .i r.2.1, .i r.2.2.1, .i r.2.2.2]) := by
 refine pure_of_wp mixed Try.func20 rfl (by decide) Try.ntmps20 (by simp) ?pure fun H0 g hf => ?_
 case pure => exact .tup _ (pl_cons (.v _) (pl_cons (.v _) (pl_cons (.v _) (pl_cons (.v _) pl_nil))))
 rw [frame0_of]
 change wpA _ _ _ _ (Fr.of [(0, .agg [.i a0.Wheel.Round, .sl .no 1 (a0.Wheel.Notches.map cI), .sl .no 1 (a0.Wheel.Coins.map cI), .sl .no 1 (a0.Found.map cI), .sl .no 1 (a0.Marked.map cI), .sl .no 1 (a0.Slugs.map cI), .i a0.Plays, .i a0.Skips])]) H0 g
 have hS := St.start hf
 refine Sq ?_
 refine Rg 5 ?_
 refine o_box (v := .agg [.i a0.Wheel.Round, .sl .no 1 (a0.Wheel.Notches.map cI), .sl .no 1 (a0.Wheel.Coins.map cI), .sl .no 1 (a0.Found.map cI), .sl .no 1 (a0.Marked.map cI), .sl .no 1 (a0.Slugs.map cI), .i a0.Plays, .i a0.Skips]) (cs := [.i a0.Wheel.Round, .sl .no 1 (a0.Wheel.Notches.map cI), .sl .no 1 (a0.Wheel.Coins.map cI), .sl .no 1 (a0.Found.map cI), .sl .no 1 (a0.Marked.map cI), .sl .no 1 (a0.Slugs.map cI), .i a0.Plays, .i a0.Skips]) hS (by decide) rfl rfl (by omega) fun H hS => ?_
 refine Oa (.i 0) ?_
 refine Oa (.i 0) ?_
 refine Oa (.i 0) ?_
 refine Oa (.i 0) ?_
 refine Ni ?_
 refine w_iceE (L' := []) 0 1 hS rfl rfl rfl fun H hS => ?_
 refine Ws ?_
 refine Sq ?_
 refine Rg 7 ?_
 refine Olg (.agg [.i a0.Wheel.Round, .sl .no 1 (a0.Wheel.Notches.map cI), .sl .no 1 (a0.Wheel.Coins.map cI), .sl .no 1 (a0.Found.map cI), .sl .no 1 (a0.Marked.map cI), .sl .no 1 (a0.Slugs.map cI), .i a0.Plays, .i a0.Skips]) ty_agg26 ?_
 obtain ⟨r1, hr1, hM⟩ := bindE hM
 refine o_call (bs := [.agg [.i a0.Wheel.Round, .sl .no 1 (a0.Wheel.Notches.map cI), .sl .no 1 (a0.Wheel.Coins.map cI), .sl .no 1 (a0.Found.map cI), .sl .no 1 (a0.Marked.map cI), .sl .no 1 (a0.Slugs.map cI), .i a0.Plays, .i a0.Skips]]) (by decide) rfl rfl ((W_takings_open hr1).le (.k .nil)) ?_
 refine Om (.tup [pA Box_.cells r1.1, .i r1.2]) ?_
 refine Ox (pA Box_.cells r1.1) ?_
 refine Ox (.i r1.2) ?_
 refine Oa (pA Box_.cells r1.1) ?_
 refine Oa (.i r1.2) ?_
 refine Ni ?_
 refine Ws ?_
 refine Sq ?_
 refine Sq ?_
 refine Rg 2 ?_
 refine Om (.i r1.2) ?_
 refine Oi (.b (r1.2 != 0)) ?_
 refine Ni ?_
 refine Ws ?_
 rcases bft (r1.2 != 0) with hb2 | hb2
 ·replace hM := ifT hM hb2
  refine Ct hb2 ?_
  refine Sq ?_
  refine Rg 5 ?_
  refine Om (.i r1.2) ?_
  refine Oa (.i 0) ?_
  refine Oa (.i 0) ?_
  refine Oa (.i 0) ?_
  refine Oa (.i r1.2) ?_
  refine Ni ?_
  refine Ws ?_
  refine r_ret ?_
  refine r_then_ret ?_
  refine w_end (x := .tup [.i 0, .i 0, .i 0, .i r1.2]) (f := fun r => .tup [.i r.1, .i r.2.1, .i r.2.2.1, .i r.2.2.2]) (.inr rfl) ?_ (.refl _) (Option.some.inj hM) hS
  exact (res_four (res_tmp (x := .i 0) rfl) (res_tmp (x := .i 0) rfl) (res_tmp (x := .i 0) rfl) (res_tmp (x := .i r1.2) rfl))
 ·replace hM := ifF hM hb2
  refine Cf hb2 ?_
  refine r_skip ?_
  refine Ws ?_
  refine Sq ?_
  refine Rg 5 ?_
  refine Om (pA Box_.cells r1.1) ?_
  refine Of ([.i a0.Wheel.Round, .sl .no 1 (a0.Wheel.Notches.map cI), .sl .no 1 (a0.Wheel.Coins.map cI), .sl .no 1 (a0.Found.map cI), .sl .no 1 (a0.Marked.map cI), .sl .no 1 (a0.Slugs.map cI), .i a0.Plays, .i a0.Skips]) ty_fo26_2 ?_
  refine Olp (.sl .no 1 (a0.Marked.map cI)) ty_agg22 ty_sc22 ?_
  obtain ⟨r3, hr3, hM⟩ := bindE hM
  refine o_call (bs := [pA Box_.cells r1.1, .sl .no 1 (a0.Marked.map cI)]) (by decide) rfl rfl ((W_takings_box_worth hr3).le (.k (.k .nil))) ?_
  refine Oa (.i r3) ?_
  refine Ni ?_
  refine Ws ?_
  refine Sq ?_
  have hS0 := hS
  refine r_draw (n := 15) rfl (by kernel_rfl) ?_
  refine Om (pA Box_.cells r1.1) ?_
  refine Of ([.i a0.Wheel.Round, .sl .no 1 (a0.Wheel.Notches.map cI), .sl .no 1 (a0.Wheel.Coins.map cI), .sl .no 1 (a0.Found.map cI), .sl .no 1 (a0.Marked.map cI), .sl .no 1 (a0.Slugs.map cI), .i a0.Plays, .i a0.Skips]) ty_fo26_1 ?_
  refine Olp (.sl .no 1 (a0.Found.map cI)) ty_agg22 ty_sc22 ?_
  obtain ⟨r4, hr4, hM⟩ := bindE hM
  refine o_call (bs := [pA Box_.cells r1.1, .sl .no 1 (a0.Found.map cI)]) (by decide) rfl rfl ((W_takings_box_worth hr4).le (.k (.k .nil))) ?_
  refine Om (.i r3) ?_
  refine Oi (.i (w64 (r4 - r3))) ?_
  refine Om (.i r3) ?_
  refine Om (pA Box_.cells r1.1) ?_
  refine Of ([.i a0.Wheel.Round, .sl .no 1 (a0.Wheel.Notches.map cI), .sl .no 1 (a0.Wheel.Coins.map cI), .sl .no 1 (a0.Found.map cI), .sl .no 1 (a0.Marked.map cI), .sl .no 1 (a0.Slugs.map cI), .i a0.Plays, .i a0.Skips]) ty_fo26_3 ?_
  refine Olp (.sl .no 1 (a0.Slugs.map cI)) ty_agg22 ty_sc22 ?_
  obtain ⟨r5, hr5, hM⟩ := bindE hM
  refine o_call (bs := [pA Box_.cells r1.1, .sl .no 1 (a0.Slugs.map cI)]) (by decide) rfl rfl ((W_takings_box_worth hr5).le (.k (.k .nil))) ?_
  refine Oa (.i (w64 (r4 - r3))) ?_
  refine Oa (.i r3) ?_
  refine Oa (.i r5) ?_
  refine Oa (.i 0) ?_
  refine Ni ?_
  refine w_next [(2, .i (w64 (r4 - r3))), (3, .i r3), (4, .i r5), (5, .i 0)] (.k (.k (.k (.k .nil)))) ?_
  refine r_ret ?_
  refine w_end (x := .tup [.i (w64 (r4 - r3)), .i r3, .i r5, .i 0]) (f := fun r => .tup [.i r.1, .i r.2.1, .i r.2.2.1, .i r.2.2.2]) (.inr rfl) ?_ (.refl _) (Option.some.inj hM) hS
  exact (res_four (res_tmp (x := .i (w64 (r4 - r3))) rfl) (res_tmp (x := .i r3) rfl) (res_tmp (x := .i r5) rfl) (res_tmp (x := .i 0) rfl))
theorem W_ref01_SameInts {n : Nat} {a0 : List Int} {a1 : List Int} {r : Bool} (hM : ref01_SameInts n a0 a1 = some r) : PureSat Try.prog 21 [.sl .no 1 (a0.map cI), .sl .no 1 (a1.map cI)] (.b r) := by
 refine pure_of_wp mixed Try.func21 rfl (by decide) Try.ntmps21 (by simp) ?pure fun H0 g hf => ?_
 case pure => exact .v _
 rw [frame0_of]
 change wpA _ _ _ _ (Fr.of [(0, .sl .no 1 (a0.map cI)), (1, .sl .no 1 (a1.map cI))]) H0 g
 have hS := St.start hf
 refine Sq ?_
 refine Rg 1 ?_
 refine Oa (.b false) ?_
 refine Ni ?_
 refine Ws ?_
 refine Sq ?_
 refine Sq ?_
 refine Rg 5 ?_
 refine Om (.sl .no 1 (a0.map cI)) ?_
 refine o_len (n := a0.length) (by decide) rfl (List.length_map _) ty_isl22 ?_
 refine Om (.sl .no 1 (a1.map cI)) ?_
 refine o_len (n := a1.length) (by decide) rfl (List.length_map _) ty_isl22 ?_
 refine Oi (.b ((a0.length : Int) != (a1.length : Int))) ?_
 refine Ni ?_
 refine Ws ?_
 rcases bft ((a0.length : Int) != (a1.length : Int)) with hb1 | hb1
 ·replace hM := ifT hM hb1
  refine Ct hb1 ?_
  refine Sq ?_
  refine Rg 1 ?_
  refine Oa (.b false) ?_
  refine Ni ?_
  refine Ws ?_
  refine r_ret ?_
  refine r_then_ret ?_
  refine w_end (x := .b false) (f := fun r => .b r) (.inr rfl) ?_ (.refl _) (Option.some.inj hM) hS
  exact (res_one (res_tmp (x := .b false) rfl))
 ·replace hM := ifF hM hb1
  refine Cf hb1 ?_
  refine r_skip ?_
  refine Ws ?_
  refine w_join (J := Unit) (fun j => []) (fun j H' g' => St (· < g) H0 [] H' g' ∧ ref01_SameInts_j1 = some r) ?_ ?_
  ·rintro _ H g1 ⟨hS, hM⟩
   change wpA _ _ _ _ (Fr.of []) _ _
   replace hS : St (· < g) H0 [] H g1 := hS
   replace hM : ref01_SameInts_j1 = some r := hM
   refine Sq ?_
   refine Rg 1 ?_
   refine Oa (.b true) ?_
   refine Ni ?_
   refine Ws ?_
   refine r_ret ?_
   refine w_end (x := .b true) (f := fun r => .b r) (.inr rfl) ?_ (.refl _) (Option.some.inj hM) hS
   exact (res_one (res_tmp (x := .b true) rfl))
  ·refine Sq ?_
   refine Rg 1 ?_
   refine Oa (.i 0) ?_
   refine Ni ?_
   refine Ws ?_
   refine r_block ?_
   refine w_loop (V := Int) (fun v => [(0, .sl .no 1 (a0.map cI)), (1, .sl .no 1 (a1.map cI)), (5, .i v)]) (fun v m2 H' g' => St (· < g) H0 [] H' g' ∧ ref01_SameInts_l1 a0 a1 m2 v = some r) (n := n) 0 (.k (.k (.k .nil))) ⟨(hS.keep [] rfl).up (by omega), hM⟩ ?_
   rintro v2 m2 H g2 ⟨hS, hM⟩
   obtain _ | m2 := m2
   ·exact nomatch (show none = some _ from hM)
   change wpA _ _ _ _ (Fr.of [(0, .sl .no 1 (a0.map cI)), (1, .sl .no 1 (a1.map cI)), (5, .i v2)]) _ _
   replace hS : St (· < g) H0 [] H g2 := hS
   replace hM : ref01_SameInts_l1_b a0 a1 (ref01_SameInts_l1 a0 a1 m2) v2 = some r := hM
   refine Sq ?_
   refine Sq ?_
   refine Rg 4 ?_
   refine Om (.i v2) ?_
   refine Om (.sl .no 1 (a0.map cI)) ?_
   refine o_len (n := a0.length) (by decide) rfl (List.length_map _) ty_isl22 ?_
   refine Oi (.b (decide (v2 < (a0.length : Int)))) ?_
   refine Ni ?_
   refine Ws ?_
   rcases bft (decide (v2 < (a0.length : Int))) with hb3 | hb3
   ·replace hM := ifT hM hb3
    refine Ct hb3 ?_
    refine r_skip ?_
    refine Ws ?_
    refine Sq ?_
    refine r_block ?_
    refine Sq ?_
    have hS0 := hS
    refine r_draw (n := 9) rfl (by kernel_rfl) ?_
    refine Om (.sl .no 1 (a0.map cI)) ?_
    refine Om (.i v2) ?_
    obtain ⟨x4, hx4, hM⟩ := bindE hM
    refine o_index (xs := a0) (f := cI) (z := v2) (u := x4) (by decide) rfl rfl ty_es22 hx4 ?_
    refine Olp (.i x4) ty_agg3 ty_sc3 ?_
    refine Om (.sl .no 1 (a1.map cI)) ?_
    refine Om (.i v2) ?_
    obtain ⟨x5, hx5, hM⟩ := bindE hM
    refine o_index (xs := a1) (f := cI) (z := v2) (u := x5) (by decide) rfl rfl ty_es22 hx5 ?_
    refine Olp (.i x5) ty_agg3 ty_sc3 ?_
    refine Oi (.b (x4 != x5)) ?_
    refine Ni ?_
    refine Ws ?_
    rcases bft (x4 != x5) with hb6 | hb6
    ·replace hM := ifT hM hb6
     refine Ct hb6 ?_
     refine Sq ?_
     refine Rg 1 ?_
     refine Oa (.b false) ?_
     refine Ni ?_
     refine Ws ?_
     refine r_ret ?_
     refine r_blk_ret ?_
     refine r_then_ret ?_
     refine w_round_ret ?_
     refine r_blk_ret ?_
     refine w_goto_ret ?_
     refine w_end (x := .b false) (f := fun r => .b r) (.inr rfl) ?_ (.refl _) (Option.some.inj hM) hS
     exact (res_one (res_tmp (x := .b false) rfl))
    ·replace hM := ifF hM hb6
     refine Cf hb6 ?_
     refine r_skip ?_
     refine r_blk_normal ?_
     refine Ws ?_
     refine Rg 3 ?_
     refine Om (.i v2) ?_
     refine Oi (.i (w64 (v2 + 1))) ?_
     refine Oa (.i (w64 (v2 + 1))) ?_
     refine Ni ?_
     exact w_round (w64 (v2 + 1)) (Nat.lt_succ_self _) (.k (.k (.k .nil))) ⟨(hS.keep [] rfl).up (by omega), hM⟩
   ·replace hM := ifF hM hb3
    refine Cf hb3 ?_
    refine r_exit ?_
    refine r_then_exit ?_
    refine w_round_exit ?_
    refine r_blk_exit ?_
    exact w_goto () .nil ⟨(hS.keep [] rfl).up (by omega), hM⟩
theorem W_slices_Max_int {n : Nat} {a0 : List Int} {r : Int} (hM : slices_Max_int n a0 = some r) : PureSat Try.prog 73 [.sl .no 1 (a0.map cI)] (.i r) := by
 refine pure_of_wp mixed Try.func73 rfl (by decide) Try.ntmps73 (by simp) ?pure fun H0 g hf => ?_
 case pure => exact .v _
 rw [frame0_of]
 change wpA _ _ _ _ (Fr.of [(0, .sl .no 1 (a0.map cI))]) H0 g
 have hS := St.start hf
 refine Sq ?_
 refine Rg 1 ?_
 refine Oa (.i 0) ?_
 refine Ni ?_
 refine Ws ?_
 refine w_join (J := Unit) (fun j => [(0, .sl .no 1 (a0.map cI))]) (fun j H' g' => St (· < g) H0 [] H' g' ∧ slices_Max_int_j1 n a0 = some r) ?_ ?_
 ·rintro _ H g1 ⟨hS, hM⟩
  change wpA _ _ _ _ (Fr.of [(0, .sl .no 1 (a0.map cI))]) _ _
  replace hS : St (· < g) H0 [] H g1 := hS
  replace hM : slices_Max_int_j1 n a0 = some r := hM
  refine Sq ?_
  refine Rg 4 ?_
  refine Om (.sl .no 1 (a0.map cI)) ?_
  obtain ⟨x1, hx1, hM⟩ := bindE hM
  refine o_index (xs := a0) (f := cI) (z := 0) (u := x1) (by decide) rfl rfl ty_es22 hx1 ?_
  refine Olp (.i x1) ty_agg3 ty_sc3 ?_
  refine Oa (.i x1) ?_
  refine Ni ?_
  refine Ws ?_
  refine w_join (J := Int) (fun j => [(3, .i j)]) (fun j H' g' => St (· < g) H0 [] H' g' ∧ slices_Max_int_j2 j = some r) ?_ ?_
  ·rintro v2 H g2 ⟨hS, hM⟩
   change wpA _ _ _ _ (Fr.of [(3, .i v2)]) _ _
   replace hS : St (· < g) H0 [] H g2 := hS
   replace hM : slices_Max_int_j2 v2 = some r := hM
   refine Sq ?_
   refine Rg 2 ?_
   refine Om (.i v2) ?_
   refine Oa (.i v2) ?_
   refine Ni ?_
   refine Ws ?_
   refine r_ret ?_
   refine w_end (x := .i v2) (f := fun r => .i r) (.inr rfl) ?_ (.refl _) (Option.some.inj hM) hS
   exact (res_one (res_tmp (x := .i v2) rfl))
  ·refine Sq ?_
   refine Rg 1 ?_
   refine Oa (.i 1) ?_
   refine Ni ?_
   refine Ws ?_
   refine r_block ?_
   refine w_loop (V := Int × Int) (fun v => [(0, .sl .no 1 (a0.map cI)), (3, .i v.1), (4, .i v.2)]) (fun v m3 H' g' => St (· < g) H0 [] H' g' ∧ slices_Max_int_l1 a0 m3 v.1 v.2 = some r) (n := n) (x1, 1) (.k (.k (.k .nil))) ⟨(hS.keep [] rfl).up (by omega), hM⟩ ?_
   rintro ⟨v3, v4⟩ m3 H g3 ⟨hS, hM⟩
   obtain _ | m3 := m3
   ·exact nomatch (show none = some _ from hM)
   change wpA _ _ _ _ (Fr.of [(0, .sl .no 1 (a0.map cI)), (3, .i v3), (4, .i v4)]) _ _
   replace hS : St (· < g) H0 [] H g3 := hS
   replace hM : slices_Max_int_l1_b a0 (slices_Max_int_l1 a0 m3) v3 v4 = some r := hM
   refine Sq ?_
   refine Sq ?_
   refine Rg 4 ?_
   refine Om (.i v4) ?_
   refine Om (.sl .no 1 (a0.map cI)) ?_
   refine o_len (n := a0.length) (by decide) rfl (List.length_map _) ty_isl22 ?_
   refine Oi (.b (decide (v4 < (a0.length : Int)))) ?_
   refine Ni ?_
   refine Ws ?_
   rcases bft (decide (v4 < (a0.length : Int))) with hb5 | hb5
   ·replace hM := ifT hM hb5
    refine Ct hb5 ?_
    refine r_skip ?_
    refine Ws ?_
    refine Sq ?_
    refine r_block ?_
    refine Rg 7 ?_
    refine Om (.i v3) ?_
    refine Om (.sl .no 1 (a0.map cI)) ?_
    refine Om (.i v4) ?_
    obtain ⟨x6, hx6, hM⟩ := bindE hM
    refine o_index (xs := a0) (f := cI) (z := v4) (u := x6) (by decide) rfl rfl ty_es22 hx6 ?_
    refine Olp (.i x6) ty_agg3 ty_sc3 ?_
    refine o_max (v := .i (max v3 x6)) (by decide) rfl ?_
    refine Oa (.i (max v3 x6)) ?_
    refine Ni ?_
    refine r_blk_normal ?_
    refine Ws ?_
    refine Rg 3 ?_
    refine Om (.i v4) ?_
    refine Oi (.i (w64 (v4 + 1))) ?_
    refine Oa (.i (w64 (v4 + 1))) ?_
    refine Ni ?_
    exact w_round ((max v3 x6), w64 (v4 + 1)) (Nat.lt_succ_self _) (.k (.k (.k .nil))) ⟨(hS.keep [] rfl).up (by omega), hM⟩
   ·replace hM := ifF hM hb5
    refine Cf hb5 ?_
    refine r_exit ?_
    refine r_then_exit ?_
    refine w_round_exit ?_
    refine r_blk_exit ?_
    exact w_goto v3 (.k .nil) ⟨(hS.keep [] rfl).up (by omega), hM⟩
 ·refine Sq ?_
  refine Rg 3 ?_
  refine Om (.sl .no 1 (a0.map cI)) ?_
  refine o_len (n := a0.length) (by decide) rfl (List.length_map _) ty_isl22 ?_
  refine Oi (.b (decide ((a0.length : Int) < 1))) ?_
  refine Ni ?_
  refine Ws ?_
  rcases bft (decide ((a0.length : Int) < 1)) with hb7 | hb7
  ·replace hM := ifT hM hb7
   refine Ct hb7 ?_
   refine Rg 2 ?_
   exact nomatch (show none = some _ from hM)
  ·replace hM := ifF hM hb7
   refine Cf hb7 ?_
   refine r_skip ?_
   exact w_goto () (.k .nil) ⟨(hS.keep [] rfl).up (by omega), hM⟩
theorem W_takings_Short {n : Nat} {a0 : Box} {r : Int × Int} (hM : takings_Short n a0 = some r) : PureSat Try.prog 39 [.agg [.i a0.Wheel.Round, .sl .no 1 (a0.Wheel.Notches.map cI), .sl .no 1 (a0.Wheel.Coins.map cI), .sl .no 1 (a0.Found.map cI), .sl .no 1 (a0.Marked.map cI), .sl .no 1 (a0.Slugs.map cI), .i a0.Plays, .i a0.Skips]] (.tup [.i r.1, .i r.2]) := by
 refine pure_of_wp mixed Try.func39 rfl (by decide) Try.ntmps39 (by simp) ?pure fun H0 g hf => ?_
 case pure => exact .tup _ (pl_cons (.v _) (pl_cons (.v _) pl_nil))
 rw [frame0_of]
 change wpA _ _ _ _ (Fr.of [(0, .agg [.i a0.Wheel.Round, .sl .no 1 (a0.Wheel.Notches.map cI), .sl .no 1 (a0.Wheel.Coins.map cI), .sl .no 1 (a0.Found.map cI), .sl .no 1 (a0.Marked.map cI), .sl .no 1 (a0.Slugs.map cI), .i a0.Plays, .i a0.Skips])]) H0 g
 have hS := St.start hf
 refine Sq ?_
 refine Rg 3 ?_
 refine o_box (v := .agg [.i a0.Wheel.Round, .sl .no 1 (a0.Wheel.Notches.map cI), .sl .no 1 (a0.Wheel.Coins.map cI), .sl .no 1 (a0.Found.map cI), .sl .no 1 (a0.Marked.map cI), .sl .no 1 (a0.Slugs.map cI), .i a0.Plays, .i a0.Skips]) (cs := [.i a0.Wheel.Round, .sl .no 1 (a0.Wheel.Notches.map cI), .sl .no 1 (a0.Wheel.Coins.map cI), .sl .no 1 (a0.Found.map cI), .sl .no 1 (a0.Marked.map cI), .sl .no 1 (a0.Slugs.map cI), .i a0.Plays, .i a0.Skips]) hS (by decide) rfl rfl (by omega) fun H hS => ?_
 refine Oa (.i 0) ?_
 refine Oa (.i 0) ?_
 refine Ni ?_
 refine w_iceE (L' := []) 0 1 hS rfl rfl rfl fun H hS => ?_
 refine Ws ?_
 refine Sq ?_
 refine Rg 7 ?_
 refine Olg (.agg [.i a0.Wheel.Round, .sl .no 1 (a0.Wheel.Notches.map cI), .sl .no 1 (a0.Wheel.Coins.map cI), .sl .no 1 (a0.Found.map cI), .sl .no 1 (a0.Marked.map cI), .sl .no 1 (a0.Slugs.map cI), .i a0.Plays, .i a0.Skips]) ty_agg26 ?_
 obtain ⟨r1, hr1, hM⟩ := bindE hM
 refine o_call (bs := [.agg [.i a0.Wheel.Round, .sl .no 1 (a0.Wheel.Notches.map cI), .sl .no 1 (a0.Wheel.Coins.map cI), .sl .no 1 (a0.Found.map cI), .sl .no 1 (a0.Marked.map cI), .sl .no 1 (a0.Slugs.map cI), .i a0.Plays, .i a0.Skips]]) (by decide) rfl rfl ((W_takings_open hr1).le (.k .nil)) ?_
 refine Om (.tup [pA Box_.cells r1.1, .i r1.2]) ?_
 refine Ox (pA Box_.cells r1.1) ?_
 refine Ox (.i r1.2) ?_
 refine Oa (pA Box_.cells r1.1) ?_
 refine Oa (.i r1.2) ?_
 refine Ni ?_
 refine Ws ?_
 refine Sq ?_
 refine Sq ?_
 refine Rg 2 ?_
 refine Om (.i r1.2) ?_
 refine Oi (.b (r1.2 != 0)) ?_
 refine Ni ?_
 refine Ws ?_
 rcases bft (r1.2 != 0) with hb2 | hb2
 ·replace hM := ifT hM hb2
  refine Ct hb2 ?_
  refine Sq ?_
  refine Rg 3 ?_
  refine Om (.i r1.2) ?_
  refine Oa (.i 0) ?_
  refine Oa (.i r1.2) ?_
  refine Ni ?_
  refine Ws ?_
  refine r_ret ?_
  refine r_then_ret ?_
  refine w_end (x := .tup [.i 0, .i r1.2]) (f := fun r => .tup [.i r.1, .i r.2]) (.inr rfl) ?_ (.refl _) (Option.some.inj hM) hS
  exact (res_two (res_tmp (x := .i 0) rfl) (res_tmp (x := .i r1.2) rfl))
 ·replace hM := ifF hM hb2
  refine Cf hb2 ?_
  refine r_skip ?_
  refine Ws ?_
  refine Sq ?_
  have hS0 := hS
  refine r_draw (n := 9) rfl (by kernel_rfl) ?_
  refine Of ([.i a0.Wheel.Round, .sl .no 1 (a0.Wheel.Notches.map cI), .sl .no 1 (a0.Wheel.Coins.map cI), .sl .no 1 (a0.Found.map cI), .sl .no 1 (a0.Marked.map cI), .sl .no 1 (a0.Slugs.map cI), .i a0.Plays, .i a0.Skips]) ty_fo26_4 ?_
  refine Olp (.i a0.Plays) ty_agg3 ty_sc3 ?_
  refine Om (pA Box_.cells r1.1) ?_
  obtain ⟨r3, hr3, hM⟩ := bindE hM
  refine o_call (bs := [pA Box_.cells r1.1]) (by decide) rfl rfl ((W_takings_box_can hr3).le (.k .nil)) ?_
  obtain ⟨r4, hr4, hM⟩ := bindE hM
  refine o_call (bs := [.sl .no 1 (r3.map cI)]) (by decide) rfl rfl ((W_slices_Max_int hr4).le (.k .nil)) ?_
  refine Oi (.i (w64 (a0.Plays - r4))) ?_
  refine o_max (v := .i (max 0 (w64 (a0.Plays - r4)))) (by decide) rfl ?_
  refine Oa (.i (max 0 (w64 (a0.Plays - r4)))) ?_
  refine Oa (.i 0) ?_
  refine Ni ?_
  refine w_next [(2, .i (max 0 (w64 (a0.Plays - r4)))), (3, .i 0)] (.k (.k .nil)) ?_
  refine r_ret ?_
  refine w_end (x := .tup [.i (max 0 (w64 (a0.Plays - r4))), .i 0]) (f := fun r => .tup [.i r.1, .i r.2]) (.inr rfl) ?_ (.refl _) (Option.some.inj hM) hS
  exact (res_two (res_tmp (x := .i (max 0 (w64 (a0.Plays - r4)))) rfl) (res_tmp (x := .i 0) rfl))
theorem W_law01_Example {r : Wheel} (hM : law01_Example = some r) : PureSat Try.prog 95 [] (.agg [.i r.Round, .sl .no 1 (r.Notches.map cI), .sl .no 1 (r.Coins.map cI)]) := by
 refine pure_of_wp mixed Try.func95 rfl (by decide) Try.ntmps95 (by simp) ?pure fun H0 g hf => ?_
 case pure => exact .agg _ (pl_cons (.v _) (pl_cons (.sl _ _ (pures_map (fun x => (pl_cons (.v _) pl_nil)))) (pl_cons (.sl _ _ (pures_map (fun x => (pl_cons (.v _) pl_nil)))) pl_nil)))
 rw [frame0_of]
 change wpA _ _ _ _ (Fr.of []) H0 g
 have hS := St.start hf
 refine Sq ?_
 refine Rg 1 ?_
 refine o_alloc hS (by decide) ty_zero24 (by omega) fun H hS => ?_
 refine Ni ?_
 refine Ws ?_
 refine Sq ?_
 refine Rg 4 ?_
 refine o_buildSlice (es := [[.i 10], [.i 20], [.i 25]]) hS (by decide) ty_es22 ty_el22 rfl ty_ef22 rfl (by decide) (by omega) fun H hS => ?_
 refine o_buildSlice (es := [[.i 5], [.i 10], [.i 25]]) hS (by decide) ty_es22 ty_el22 rfl ty_ef22 rfl (by decide) (by omega) fun H hS => ?_
 refine o_build (cs := [.i 50, .sl (.id (g + 1 + 0)) 1 (([10, 20, 25] : List Int).map cI), .sl (.id (g + 1 + 1)) 1 (([5, 10, 25] : List Int).map cI)]) (by decide) ty_zero24 ty_pl24 rfl ?_
 refine o_store (v := .agg [.i 50, .sl (.id (g + 1 + 0)) 1 (([10, 20, 25] : List Int).map cI), .sl (.id (g + 1 + 1)) 1 (([5, 10, 25] : List Int).map cI)]) (ns := [.i 50, .sl (.id (g + 1 + 0)) 1 (([10, 20, 25] : List Int).map cI), .sl (.id (g + 1 + 1)) 1 (([5, 10, 25] : List Int).map cI)]) (L' := [(g + 1 + 1, .row 3 3), (g + 1 + 0, .row 3 3), (g + 0, .cells [.i 50, .sl (.id (g + 1 + 0)) 1 (([10, 20, 25] : List Int).map cI), .sl (.id (g + 1 + 1)) 1 (([5, 10, 25] : List Int).map cI)])]) 2 hS rfl rfl .no rfl rfl ty_var24 nlb rfl fun H hS => ?_
 refine Ni ?_
 refine w_next [(0, .ptr (g + 0) 0)] (.k .nil) ?_
 refine r_ret ?_
 refine w_end (x := .agg [.i 50, .sl (.id (g + 1 + 0)) 1 (([10, 20, 25] : List Int).map cI), .sl (.id (g + 1 + 1)) 1 (([5, 10, 25] : List Int).map cI)]) (f := fun r => .agg [.i r.Round, .sl .no 1 (r.Notches.map cI), .sl .no 1 (r.Coins.map cI)]) (.inr rfl) ?_ (.aggL (.k (.cons (.sl _ _ _) (.cons (.sl _ _ _) .nil)))) (Option.some.inj hM) hS
 exact (res_one (res_cell (x := .agg [.i 50, .sl (.id (g + 1 + 0)) 1 (([10, 20, 25] : List Int).map cI), .sl (.id (g + 1 + 1)) 1 (([5, 10, 25] : List Int).map cI)]) 2 hS rfl rfl (pg ty_agg24)))
theorem W_law05_Example {r : Box} (hM : law05_Example = some r) : PureSat Try.prog 58 [] (.agg [.i r.Wheel.Round, .sl .no 1 (r.Wheel.Notches.map cI), .sl .no 1 (r.Wheel.Coins.map cI), .sl .no 1 (r.Found.map cI), .sl .no 1 (r.Marked.map cI), .sl .no 1 (r.Slugs.map cI), .i r.Plays, .i r.Skips]) := by
 refine pure_of_wp mixed Try.func58 rfl (by decide) Try.ntmps58 (by simp) ?pure fun H0 g hf => ?_
 case pure => exact .agg _ (pl_cons (.v _) (pl_cons (.sl _ _ (pures_map (fun x => (pl_cons (.v _) pl_nil)))) (pl_cons (.sl _ _ (pures_map (fun x => (pl_cons (.v _) pl_nil)))) (pl_cons (.sl _ _ (pures_map (fun x => (pl_cons (.v _) pl_nil)))) (pl_cons (.sl _ _ (pures_map (fun x => (pl_cons (.v _) pl_nil)))) (pl_cons (.sl _ _ (pures_map (fun x => (pl_cons (.v _) pl_nil)))) (pl_cons (.v _) (pl_cons (.v _) pl_nil))))))))
 rw [frame0_of]
 change wpA _ _ _ _ (Fr.of []) H0 g
 have hS := St.start hf
 refine Sq ?_
 refine Rg 1 ?_
 refine o_alloc hS (by decide) ty_zero26 (by omega) fun H hS => ?_
 refine Ni ?_
 refine Ws ?_
 refine Sq ?_
 refine Rg 6 ?_
 obtain ⟨r1, hr1, hM⟩ := bindE hM
 refine o_call (bs := []) (by decide) rfl rfl ((W_law01_Example hr1).le .nil) ?_
 refine o_buildSlice (es := [[.i 0], [.i 2], [.i 1]]) hS (by decide) ty_es22 ty_el22 rfl ty_ef22 rfl (by decide) (by omega) fun H hS => ?_
 refine o_buildSlice (es := [[.i 0], [.i 1], [.i 0]]) hS (by decide) ty_es22 ty_el22 rfl ty_ef22 rfl (by decide) (by omega) fun H hS => ?_
 refine o_buildSlice (es := [[.i 0], [.i 0], [.i 0]]) hS (by decide) ty_es22 ty_el22 rfl ty_ef22 rfl (by decide) (by omega) fun H hS => ?_
 refine o_build (cs := [.i r1.Round, .sl .no 1 (r1.Notches.map cI), .sl .no 1 (r1.Coins.map cI), .sl (.id (g + 1 + 1)) 1 (([0, 2, 1] : List Int).map cI), .sl (.id (g + 1 + 2)) 1 (([0, 1, 0] : List Int).map cI), .sl (.id (g + 1 + 3)) 1 (([0, 0, 0] : List Int).map cI), .i 6, .i 0]) (by decide) ty_zero26 ty_pl26 rfl ?_
 refine o_store (v := .agg [.i r1.Round, .sl .no 1 (r1.Notches.map cI), .sl .no 1 (r1.Coins.map cI), .sl (.id (g + 1 + 1)) 1 (([0, 2, 1] : List Int).map cI), .sl (.id (g + 1 + 2)) 1 (([0, 1, 0] : List Int).map cI), .sl (.id (g + 1 + 3)) 1 (([0, 0, 0] : List Int).map cI), .i 6, .i 0]) (ns := [.i r1.Round, .sl .no 1 (r1.Notches.map cI), .sl .no 1 (r1.Coins.map cI), .sl (.id (g + 1 + 1)) 1 (([0, 2, 1] : List Int).map cI), .sl (.id (g + 1 + 2)) 1 (([0, 1, 0] : List Int).map cI), .sl (.id (g + 1 + 3)) 1 (([0, 0, 0] : List Int).map cI), .i 6, .i 0]) (L' := [(g + 1 + 3, .row 3 3), (g + 1 + 2, .row 3 3), (g + 1 + 1, .row 3 3), (g + 0, .cells [.i r1.Round, .sl .no 1 (r1.Notches.map cI), .sl .no 1 (r1.Coins.map cI), .sl (.id (g + 1 + 1)) 1 (([0, 2, 1] : List Int).map cI), .sl (.id (g + 1 + 2)) 1 (([0, 1, 0] : List Int).map cI), .sl (.id (g + 1 + 3)) 1 (([0, 0, 0] : List Int).map cI), .i 6, .i 0])]) 3 hS rfl rfl .no rfl rfl ty_var26 nlb rfl fun H hS => ?_
 refine Ni ?_
 refine w_next [(0, .ptr (g + 0) 0)] (.k .nil) ?_
 refine r_ret ?_
 refine w_end (x := .agg [.i r1.Round, .sl .no 1 (r1.Notches.map cI), .sl .no 1 (r1.Coins.map cI), .sl (.id (g + 1 + 1)) 1 (([0, 2, 1] : List Int).map cI), .sl (.id (g + 1 + 2)) 1 (([0, 1, 0] : List Int).map cI), .sl (.id (g + 1 + 3)) 1 (([0, 0, 0] : List Int).map cI), .i 6, .i 0]) (f := fun r => .agg [.i r.Wheel.Round, .sl .no 1 (r.Wheel.Notches.map cI), .sl .no 1 (r.Wheel.Coins.map cI), .sl .no 1 (r.Found.map cI), .sl .no 1 (r.Marked.map cI), .sl .no 1 (r.Slugs.map cI), .i r.Plays, .i r.Skips]) (.inr rfl) ?_ (.aggL (.k (.k (.k (.cons (.sl _ _ _) (.cons (.sl _ _ _) (.cons (.sl _ _ _) (.k (.k .nil))))))))) (Option.some.inj hM) hS
 exact (res_one (res_cell (x := .agg [.i r1.Round, .sl .no 1 (r1.Notches.map cI), .sl .no 1 (r1.Coins.map cI), .sl (.id (g + 1 + 1)) 1 (([0, 2, 1] : List Int).map cI), .sl (.id (g + 1 + 2)) 1 (([0, 1, 0] : List Int).map cI), .sl (.id (g + 1 + 3)) 1 (([0, 0, 0] : List Int).map cI), .i 6, .i 0]) 3 hS rfl rfl (pg ty_agg26)))
theorem W_law05_works {n : Nat} {r : Bool} (hM : law05_works n = some r) : PureSat Try.prog 16 [] (.b r) := by
 refine pure_of_wp mixed Try.func16 rfl (by decide) Try.ntmps16 (by simp) ?pure fun H0 g hf => ?_
 case pure => exact .v _
 rw [frame0_of]
 change wpA _ _ _ _ (Fr.of []) H0 g
 have hS := St.start hf
 refine Sq ?_
 refine Rg 1 ?_
 refine Oa (.b false) ?_
 refine Ni ?_
 refine Ws ?_
 refine Sq ?_
 refine Rg 3 ?_
 obtain ⟨r1, hr1, hM⟩ := bindE hM
 refine o_call (bs := []) (by decide) rfl rfl ((W_law05_Example hr1).le .nil) ?_
 refine o_alloc hS (by decide) ty_zero26 (by omega) fun H hS => ?_
 refine o_store (v := .agg [.i r1.Wheel.Round, .sl .no 1 (r1.Wheel.Notches.map cI), .sl .no 1 (r1.Wheel.Coins.map cI), .sl .no 1 (r1.Found.map cI), .sl .no 1 (r1.Marked.map cI), .sl .no 1 (r1.Slugs.map cI), .i r1.Plays, .i r1.Skips]) (ns := [.i r1.Wheel.Round, .sl .no 1 (r1.Wheel.Notches.map cI), .sl .no 1 (r1.Wheel.Coins.map cI), .sl .no 1 (r1.Found.map cI), .sl .no 1 (r1.Marked.map cI), .sl .no 1 (r1.Slugs.map cI), .i r1.Plays, .i r1.Skips]) (L' := [(g + 1 + 1, .cells [.i r1.Wheel.Round, .sl .no 1 (r1.Wheel.Notches.map cI), .sl .no 1 (r1.Wheel.Coins.map cI), .sl .no 1 (r1.Found.map cI), .sl .no 1 (r1.Marked.map cI), .sl .no 1 (r1.Slugs.map cI), .i r1.Plays, .i r1.Skips])]) 0 hS rfl rfl .no rfl rfl ty_var26 nlb rfl fun H hS => ?_
 refine Ni ?_
 refine w_iceE (L' := []) 0 1 hS rfl rfl rfl fun H hS => ?_
 refine Ws ?_
 refine Sq ?_
 refine Rg 7 ?_
 refine Olg (.agg [.i r1.Wheel.Round, .sl .no 1 (r1.Wheel.Notches.map cI), .sl .no 1 (r1.Wheel.Coins.map cI), .sl .no 1 (r1.Found.map cI), .sl .no 1 (r1.Marked.map cI), .sl .no 1 (r1.Slugs.map cI), .i r1.Plays, .i r1.Skips]) ty_agg26 ?_
 obtain ⟨r2, hr2, hM⟩ := bindE hM
 refine o_call (bs := [.agg [.i r1.Wheel.Round, .sl .no 1 (r1.Wheel.Notches.map cI), .sl .no 1 (r1.Wheel.Coins.map cI), .sl .no 1 (r1.Found.map cI), .sl .no 1 (r1.Marked.map cI), .sl .no 1 (r1.Slugs.map cI), .i r1.Plays, .i r1.Skips]]) (by decide) rfl rfl ((W_takings_Can hr2).le (.k .nil)) ?_
 refine Om (.tup [.sl .no 1 (r2.1.map cI), .i r2.2]) ?_
 refine Ox (.sl .no 1 (r2.1.map cI)) ?_
 refine Ox (.i r2.2) ?_
 refine Oa (.sl .no 1 (r2.1.map cI)) ?_
 refine Oa (.i r2.2) ?_
 refine Ni ?_
 refine Ws ?_
 refine Sq ?_
 refine Rg 11 ?_
 refine Olg (.agg [.i r1.Wheel.Round, .sl .no 1 (r1.Wheel.Notches.map cI), .sl .no 1 (r1.Wheel.Coins.map cI), .sl .no 1 (r1.Found.map cI), .sl .no 1 (r1.Marked.map cI), .sl .no 1 (r1.Slugs.map cI), .i r1.Plays, .i r1.Skips]) ty_agg26 ?_
 obtain ⟨r3, hr3, hM⟩ := bindE hM
 refine o_call (bs := [.agg [.i r1.Wheel.Round, .sl .no 1 (r1.Wheel.Notches.map cI), .sl .no 1 (r1.Wheel.Coins.map cI), .sl .no 1 (r1.Found.map cI), .sl .no 1 (r1.Marked.map cI), .sl .no 1 (r1.Slugs.map cI), .i r1.Plays, .i r1.Skips]]) (by decide) rfl rfl ((W_takings_Cash hr3).le (.k .nil)) ?_
 refine Om (.tup [.i r3.1, .i r3.2.1, .i r3.2.2.1, .i r3.2.2.2]) ?_
 refine Ox (.i r3.1) ?_
 refine Ox (.i r3.2.1) ?_
 refine Ox (.i r3.2.2.1) ?_
 refine Ox (.i r3.2.2.2) ?_
 refine Oa (.i r3.1) ?_
 refine Oa (.i r3.2.1) ?_
 refine Oa (.i r3.2.2.1) ?_
 refine Oa (.i r3.2.2.2) ?_
 refine Ni ?_
 refine Ws ?_
 refine Sq ?_
 refine Rg 7 ?_
 refine Olg (.agg [.i r1.Wheel.Round, .sl .no 1 (r1.Wheel.Notches.map cI), .sl .no 1 (r1.Wheel.Coins.map cI), .sl .no 1 (r1.Found.map cI), .sl .no 1 (r1.Marked.map cI), .sl .no 1 (r1.Slugs.map cI), .i r1.Plays, .i r1.Skips]) ty_agg26 ?_
 obtain ⟨r4, hr4, hM⟩ := bindE hM
 refine o_call (bs := [.agg [.i r1.Wheel.Round, .sl .no 1 (r1.Wheel.Notches.map cI), .sl .no 1 (r1.Wheel.Coins.map cI), .sl .no 1 (r1.Found.map cI), .sl .no 1 (r1.Marked.map cI), .sl .no 1 (r1.Slugs.map cI), .i r1.Plays, .i r1.Skips]]) (by decide) rfl rfl ((W_takings_Missing hr4).le (.k .nil)) ?_
 refine Om (.tup [.i r4.1, .i r4.2]) ?_
 refine Ox (.i r4.1) ?_
 refine Ox (.i r4.2) ?_
 refine Oa (.i r4.1) ?_
 refine Oa (.i r4.2) ?_
 refine Ni ?_
 refine Ws ?_
 refine Sq ?_
 refine Rg 7 ?_
 refine Olg (.agg [.i r1.Wheel.Round, .sl .no 1 (r1.Wheel.Notches.map cI), .sl .no 1 (r1.Wheel.Coins.map cI), .sl .no 1 (r1.Found.map cI), .sl .no 1 (r1.Marked.map cI), .sl .no 1 (r1.Slugs.map cI), .i r1.Plays, .i r1.Skips]) ty_agg26 ?_
 obtain ⟨r5, hr5, hM⟩ := bindE hM
 refine o_call (bs := [.agg [.i r1.Wheel.Round, .sl .no 1 (r1.Wheel.Notches.map cI), .sl .no 1 (r1.Wheel.Coins.map cI), .sl .no 1 (r1.Found.map cI), .sl .no 1 (r1.Marked.map cI), .sl .no 1 (r1.Slugs.map cI), .i r1.Plays, .i r1.Skips]]) (by decide) rfl rfl ((W_takings_Short hr5).le (.k .nil)) ?_
 refine Om (.tup [.i r5.1, .i r5.2]) ?_
 refine Ox (.i r5.1) ?_
 refine Ox (.i r5.2) ?_
 refine Oa (.i r5.1) ?_
 refine Oa (.i r5.2) ?_
 refine Ni ?_
 refine Ws ?_
 refine w_join (J := Bool) (fun j => [(0, .b j)]) (fun j H' g' => St (· < g) H0 [] H' g' ∧ law05_works_j1 j = some r) ?_ ?_
 ·rintro v6 H g1 ⟨hS, hM⟩
  change wpA _ _ _ _ (Fr.of [(0, .b v6)]) _ _
  replace hS : St (· < g) H0 [] H g1 := hS
  replace hM : law05_works_j1 v6 = some r := hM
  refine r_ret ?_
  refine w_end (x := .b v6) (f := fun r => .b r) (.inr rfl) ?_ (.refl _) (Option.some.inj hM) hS
  exact (res_one (res_tmp (x := .b v6) rfl))
 ·refine Rg 36 ?_
  refine Om (.i r2.2) ?_
  refine Oi (.b (r2.2 == 0)) ?_
  refine Om (.b (r2.2 == 0)) ?_
  rcases bft (r2.2 == 0) with hb7 | hb7
  ·replace hM := ifT hM hb7
   refine Oy (want := true) hb7 ?_
   refine Om (.i r3.2.2.2) ?_
   refine Oy (want := true) hb7 ?_
   refine Oi (.b (r3.2.2.2 == 0)) ?_
   refine Pt (.b (r3.2.2.2 == 0)) hb7 ?_
   refine Om (.b (r3.2.2.2 == 0)) ?_
   rcases bft (r3.2.2.2 == 0) with hb8 | hb8
   ·replace hM := ifT hM hb8
    refine Oy (want := true) hb8 ?_
    refine Om (.i r4.2) ?_
    refine Oy (want := true) hb8 ?_
    refine Oi (.b (r4.2 == 0)) ?_
    refine Pt (.b (r4.2 == 0)) hb8 ?_
    refine Om (.b (r4.2 == 0)) ?_
    rcases bft (r4.2 == 0) with hb9 | hb9
    ·replace hM := ifT hM hb9
     refine Oy (want := true) hb9 ?_
     refine Om (.i r5.2) ?_
     refine Oy (want := true) hb9 ?_
     refine Oi (.b (r5.2 == 0)) ?_
     refine Pt (.b (r5.2 == 0)) hb9 ?_
     refine Om (.b (r5.2 == 0)) ?_
     rcases bft (r5.2 == 0) with hb10 | hb10
     ·replace hM := ifT hM hb10
      refine Oy (want := true) hb10 ?_
      refine Om (.sl .no 1 (r2.1.map cI)) ?_
      refine Oy (want := true) hb10 ?_
      refine o_buildSlice (es := [[.i 3], [.i 4], [.i 5]]) hS (by decide) ty_es22 ty_el22 rfl ty_ef22 rfl (by decide) (by omega) fun H hS => ?_
      refine Oy (want := true) hb10 ?_
      obtain ⟨r11, hr11, hM⟩ := bindE hM
      refine o_call (bs := [.sl .no 1 (r2.1.map cI), .sl (.id (g + 1 + 3 + 7 + 11 + 7 + 7 + 16)) 1 (([3, 4, 5] : List Int).map cI)]) (by decide) rfl rfl ((W_ref01_SameInts hr11).le (.k (.cons (.sl _ _ _) .nil))) ?_
      refine Pt (.b r11) hb10 ?_
      refine Om (.b r11) ?_
      rcases bft r11 with hb12 | hb12
      ·replace hM := ifT hM hb12
       refine Oy (want := true) hb12 ?_
       refine Om (.i r3.1) ?_
       refine Oy (want := true) hb12 ?_
       refine Oi (.b (r3.1 == 35)) ?_
       refine Pt (.b (r3.1 == 35)) hb12 ?_
       refine Om (.b (r3.1 == 35)) ?_
       rcases bft (r3.1 == 35) with hb13 | hb13
       ·replace hM := ifT hM hb13
        refine Oy (want := true) hb13 ?_
        refine Om (.i r3.2.1) ?_
        refine Oy (want := true) hb13 ?_
        refine Oi (.b (r3.2.1 == 10)) ?_
        refine Pt (.b (r3.2.1 == 10)) hb13 ?_
        refine Om (.b (r3.2.1 == 10)) ?_
        rcases bft (r3.2.1 == 10) with hb14 | hb14
        ·replace hM := ifT hM hb14
         refine Oy (want := true) hb14 ?_
         refine Om (.i r4.1) ?_
         refine Oy (want := true) hb14 ?_
         refine Oi (.b (r4.1 == 5)) ?_
         refine Pt (.b (r4.1 == 5)) hb14 ?_
         refine Om (.b (r4.1 == 5)) ?_
         rcases bft (r4.1 == 5) with hb15 | hb15
         ·replace hM := ifT hM hb15
          refine Oy (want := true) hb15 ?_
          refine Om (.i r5.1) ?_
          refine Oy (want := true) hb15 ?_
          refine Oi (.b (r5.1 == 1)) ?_
          refine Pt (.b (r5.1 == 1)) hb15 ?_
          refine Oa (.b (r5.1 == 1)) ?_
          refine Ni ?_
          exact w_goto (r5.1 == 1) (.k .nil) ⟨(hS.keep [false] rfl).up (by omega), hM⟩
         ·replace hM := ifF hM hb15
          refine On (want := true) hb15 ?_
          refine On (want := true) hb15 ?_
          refine Pf (.b false) hb15 ?_
          refine Oa (.b false) ?_
          refine Ni ?_
          exact w_goto false (.k .nil) ⟨(hS.keep [false] rfl).up (by omega), hM⟩
        ·replace hM := ifF hM hb14
         refine On (want := true) hb14 ?_
         refine On (want := true) hb14 ?_
         refine Pf (.b false) hb14 ?_
         refine Om (.b false) ?_
         refine Og ?_
         refine Og ?_
         refine o_pickF (v := .b false) (e := false) (by decide) rfl rfl rfl ?_
         refine Oa (.b false) ?_
         refine Ni ?_
         exact w_goto false (.k .nil) ⟨(hS.keep [false] rfl).up (by omega), hM⟩
       ·replace hM := ifF hM hb13
        refine On (want := true) hb13 ?_
        refine On (want := true) hb13 ?_
        refine Pf (.b false) hb13 ?_
        refine Om (.b false) ?_
        refine Og ?_
        refine Og ?_
        refine o_pickF (v := .b false) (e := false) (by decide) rfl rfl rfl ?_
        refine Om (.b false) ?_
        refine Og ?_
        refine Og ?_
        refine o_pickF (v := .b false) (e := false) (by decide) rfl rfl rfl ?_
        refine Oa (.b false) ?_
        refine Ni ?_
        exact w_goto false (.k .nil) ⟨(hS.keep [false] rfl).up (by omega), hM⟩
      ·replace hM := ifF hM hb12
       refine On (want := true) hb12 ?_
       refine On (want := true) hb12 ?_
       refine Pf (.b false) hb12 ?_
       refine Om (.b false) ?_
       refine Og ?_
       refine Og ?_
       refine o_pickF (v := .b false) (e := false) (by decide) rfl rfl rfl ?_
       refine Om (.b false) ?_
       refine Og ?_
       refine Og ?_
       refine o_pickF (v := .b false) (e := false) (by decide) rfl rfl rfl ?_
       refine Om (.b false) ?_
       refine Og ?_
       refine Og ?_
       refine o_pickF (v := .b false) (e := false) (by decide) rfl rfl rfl ?_
       refine Oa (.b false) ?_
       refine Ni ?_
       exact w_goto false (.k .nil) ⟨(hS.keep [false] rfl).up (by omega), hM⟩
     ·replace hM := ifF hM hb10
      refine On (want := true) hb10 ?_
      refine On (want := true) hb10 ?_
      refine On (want := true) hb10 ?_
      refine Pf (.b false) hb10 ?_
      refine Om (.b false) ?_
      refine Og ?_
      refine Og ?_
      refine o_pickF (v := .b false) (e := false) (by decide) rfl rfl rfl ?_
      refine Om (.b false) ?_
      refine Og ?_
      refine Og ?_
      refine o_pickF (v := .b false) (e := false) (by decide) rfl rfl rfl ?_
      refine Om (.b false) ?_
      refine Og ?_
      refine Og ?_
      refine o_pickF (v := .b false) (e := false) (by decide) rfl rfl rfl ?_
      refine Om (.b false) ?_
      refine Og ?_
      refine Og ?_
      refine o_pickF (v := .b false) (e := false) (by decide) rfl rfl rfl ?_
      refine Oa (.b false) ?_
      refine Ni ?_
      exact w_goto false (.k .nil) ⟨(hS.keep [] rfl).up (by omega), hM⟩
    ·replace hM := ifF hM hb9
     refine On (want := true) hb9 ?_
     refine On (want := true) hb9 ?_
     refine Pf (.b false) hb9 ?_
     refine Om (.b false) ?_
     refine Og ?_
     refine Og ?_
     refine Og ?_
     refine o_pickF (v := .b false) (e := false) (by decide) rfl rfl rfl ?_
     refine Om (.b false) ?_
     refine Og ?_
     refine Og ?_
     refine o_pickF (v := .b false) (e := false) (by decide) rfl rfl rfl ?_
     refine Om (.b false) ?_
     refine Og ?_
     refine Og ?_
     refine o_pickF (v := .b false) (e := false) (by decide) rfl rfl rfl ?_
     refine Om (.b false) ?_
     refine Og ?_
     refine Og ?_
     refine o_pickF (v := .b false) (e := false) (by decide) rfl rfl rfl ?_
     refine Om (.b false) ?_
     refine Og ?_
     refine Og ?_
     refine o_pickF (v := .b false) (e := false) (by decide) rfl rfl rfl ?_
     refine Oa (.b false) ?_
     refine Ni ?_
     exact w_goto false (.k .nil) ⟨(hS.keep [] rfl).up (by omega), hM⟩
   ·replace hM := ifF hM hb8
    refine On (want := true) hb8 ?_
    refine On (want := true) hb8 ?_
    refine Pf (.b false) hb8 ?_
    refine Om (.b false) ?_
    refine Og ?_
    refine Og ?_
    refine o_pickF (v := .b false) (e := false) (by decide) rfl rfl rfl ?_
    refine Om (.b false) ?_
    refine Og ?_
    refine Og ?_
    refine Og ?_
    refine o_pickF (v := .b false) (e := false) (by decide) rfl rfl rfl ?_
    refine Om (.b false) ?_
    refine Og ?_
    refine Og ?_
    refine o_pickF (v := .b false) (e := false) (by decide) rfl rfl rfl ?_
    refine Om (.b false) ?_
    refine Og ?_
    refine Og ?_
    refine o_pickF (v := .b false) (e := false) (by decide) rfl rfl rfl ?_
    refine Om (.b false) ?_
    refine Og ?_
    refine Og ?_
    refine o_pickF (v := .b false) (e := false) (by decide) rfl rfl rfl ?_
    refine Om (.b false) ?_
    refine Og ?_
    refine Og ?_
    refine o_pickF (v := .b false) (e := false) (by decide) rfl rfl rfl ?_
    refine Oa (.b false) ?_
    refine Ni ?_
    exact w_goto false (.k .nil) ⟨(hS.keep [] rfl).up (by omega), hM⟩
  ·replace hM := ifF hM hb7
   refine On (want := true) hb7 ?_
   refine On (want := true) hb7 ?_
   refine Pf (.b false) hb7 ?_
   refine Om (.b false) ?_
   refine Og ?_
   refine Og ?_
   refine o_pickF (v := .b false) (e := false) (by decide) rfl rfl rfl ?_
   refine Om (.b false) ?_
   refine Og ?_
   refine Og ?_
   refine o_pickF (v := .b false) (e := false) (by decide) rfl rfl rfl ?_
   refine Om (.b false) ?_
   refine Og ?_
   refine Og ?_
   refine Og ?_
   refine o_pickF (v := .b false) (e := false) (by decide) rfl rfl rfl ?_
   refine Om (.b false) ?_
   refine Og ?_
   refine Og ?_
   refine o_pickF (v := .b false) (e := false) (by decide) rfl rfl rfl ?_
   refine Om (.b false) ?_
   refine Og ?_
   refine Og ?_
   refine o_pickF (v := .b false) (e := false) (by decide) rfl rfl rfl ?_
   refine Om (.b false) ?_
   refine Og ?_
   refine Og ?_
   refine o_pickF (v := .b false) (e := false) (by decide) rfl rfl rfl ?_
   refine Om (.b false) ?_
   refine Og ?_
   refine Og ?_
   refine o_pickF (v := .b false) (e := false) (by decide) rfl rfl rfl ?_
   refine Oa (.b false) ?_
   refine Ni ?_
   exact w_goto false (.k .nil) ⟨(hS.keep [] rfl).up (by omega), hM⟩
theorem W_takings_Sum {n : Nat} {a0 : List Box} {r : Int × Int × Int × Int} (hM : takings_Sum n a0 = some r) : PureSat Try.prog 42 [.sl .no 8 (a0.map Box.cells)] (.tup [.i r.1, .i r.2.1, .i r.2.2.1, .i r.2.2.2]) := by
 refine pure_of_wp mixed Try.func42 rfl (by decide) Try.ntmps42 (by simp) ?pure fun H0 g hf => ?_
 case pure => exact .tup _ (pl_cons (.v _) (pl_cons (.v _) (pl_cons (.v _) (pl_cons (.v _) pl_nil))))
 rw [frame0_of]
 change wpA _ _ _ _ (Fr.of [(0, .sl .no 8 (a0.map Box.cells))]) H0 g
 have hS := St.start hf
 refine Sq ?_
 refine Rg 4 ?_
 refine Oa (.i 0) ?_
 refine Oa (.i 0) ?_
 refine Oa (.i 0) ?_
 refine Oa (.i 0) ?_
 refine Ni ?_
 refine Ws ?_
 refine Sq ?_
 refine Sq ?_
 refine Rg 3 ?_
 refine Om (.sl .no 8 (a0.map Box.cells)) ?_
 refine o_len (n := a0.length) (by decide) rfl (List.length_map _) ty_isl50 ?_
 refine Oi (.b (decide ((a0.length : Int) > 5))) ?_
 refine Ni ?_
 refine Ws ?_
 rcases bft (decide ((a0.length : Int) > 5)) with hb1 | hb1
 ·replace hM := ifT hM hb1
  refine Ct hb1 ?_
  refine Sq ?_
  refine Rg 4 ?_
  refine Oa (.i 0) ?_
  refine Oa (.i 0) ?_
  refine Oa (.i 0) ?_
  refine Oa (.i 2) ?_
  refine Ni ?_
  refine Ws ?_
  refine r_ret ?_
  refine r_then_ret ?_
  refine w_end (x := .tup [.i 0, .i 0, .i 0, .i 2]) (f := fun r => .tup [.i r.1, .i r.2.1, .i r.2.2.1, .i r.2.2.2]) (.inr rfl) ?_ (.refl _) (Option.some.inj hM) hS
  exact (res_four (res_tmp (x := .i 0) rfl) (res_tmp (x := .i 0) rfl) (res_tmp (x := .i 0) rfl) (res_tmp (x := .i 2) rfl))
 ·replace hM := ifF hM hb1
  refine Cf hb1 ?_
  refine r_skip ?_
  refine Ws ?_
  refine w_join (J := Int × Int × Int) (fun j => [(0, .sl .no 8 (a0.map Box.cells)), (2, .i j.1), (3, .i j.2.1), (4, .i j.2.2)]) (fun j H' g' => St (· < g) H0 [] H' g' ∧ takings_Sum_j1 n a0 j.1 j.2.1 j.2.2 = some r) ?_ ?_
  ·rintro ⟨v2, v3, v4⟩ H g1 ⟨hS, hM⟩
   change wpA _ _ _ _ (Fr.of [(0, .sl .no 8 (a0.map Box.cells)), (2, .i v2), (3, .i v3), (4, .i v4)]) _ _
   replace hS : St (· < g) H0 [] H g1 := hS
   replace hM : takings_Sum_j1 n a0 v2 v3 v4 = some r := hM
   refine w_join (J := Int × Int × Int) (fun j => [(2, .i j.1), (3, .i j.2.1), (4, .i j.2.2)]) (fun j H' g' => St (· < g) H0 [] H' g' ∧ takings_Sum_j2 j.1 j.2.1 j.2.2 = some r) ?_ ?_
   ·rintro ⟨v5, v6, v7⟩ H g2 ⟨hS, hM⟩
    change wpA _ _ _ _ (Fr.of [(2, .i v5), (3, .i v6), (4, .i v7)]) _ _
    replace hS : St (· < g) H0 [] H g2 := hS
    replace hM : takings_Sum_j2 v5 v6 v7 = some r := hM
    refine Sq ?_
    refine Rg 7 ?_
    refine Om (.i v5) ?_
    refine Om (.i v6) ?_
    refine Om (.i v7) ?_
    refine Oa (.i v5) ?_
    refine Oa (.i v6) ?_
    refine Oa (.i v7) ?_
    refine Oa (.i 0) ?_
    refine Ni ?_
    refine Ws ?_
    refine r_ret ?_
    refine w_end (x := .tup [.i v5, .i v6, .i v7, .i 0]) (f := fun r => .tup [.i r.1, .i r.2.1, .i r.2.2.1, .i r.2.2.2]) (.inr rfl) ?_ (.refl _) (Option.some.inj hM) hS
    exact (res_four (res_tmp (x := .i v5) rfl) (res_tmp (x := .i v6) rfl) (res_tmp (x := .i v7) rfl) (res_tmp (x := .i 0) rfl))
   ·refine Sq ?_
    refine Rg 3 ?_
    refine Om (.sl .no 8 (a0.map Box.cells)) ?_
    refine o_len (n := a0.length) (by decide) rfl (List.length_map _) ty_isl50 ?_
    refine Om (.i 0) ?_
    refine Ni ?_
    refine Ws ?_
    refine r_block ?_
    refine w_loop (V := Int × Int × Int × Int) (fun v => [(2, .i v.1), (3, .i v.2.1), (4, .i v.2.2.1), (32, .sl .no 8 (a0.map Box.cells)), (33, .i (a0.length : Int)), (34, .i v.2.2.2)]) (fun v m3 H' g' => St (· < g) H0 [] H' g' ∧ takings_Sum_l1 n a0 m3 v.1 v.2.1 v.2.2.1 v.2.2.2 = some r) (n := n) (v2, v3, v4, 0) (.k (.k (.k (.k (.k (.k .nil)))))) ⟨(hS.keep [] rfl).up (by omega), hM⟩ ?_
    rintro ⟨v8, v9, v10, v11⟩ m3 H g3 ⟨hS, hM⟩
    obtain _ | m3 := m3
    ·exact nomatch (show none = some _ from hM)
    change wpA _ _ _ _ (Fr.of [(2, .i v8), (3, .i v9), (4, .i v10), (32, .sl .no 8 (a0.map Box.cells)), (33, .i (a0.length : Int)), (34, .i v11)]) _ _
    replace hS : St (· < g) H0 [] H g3 := hS
    replace hM : takings_Sum_l1_b n a0 (takings_Sum_l1 n a0 m3) v8 v9 v10 v11 = some r := hM
    refine Sq ?_
    refine Rg 1 ?_
    refine Oi (.b (decide (v11 < (a0.length : Int)))) ?_
    refine Ni ?_
    refine Ws ?_
    refine Sq ?_
    rcases bft (decide (v11 < (a0.length : Int))) with hb12 | hb12
    ·replace hM := ifT hM hb12
     refine Ct hb12 ?_
     refine r_skip ?_
     refine Ws ?_
     refine w_join (J := Int × Int × Int) (fun j => [(2, .i j.1), (3, .i j.2.1), (4, .i j.2.2), (32, .sl .no 8 (a0.map Box.cells)), (33, .i (a0.length : Int)), (34, .i v11)]) (fun j H' g' => St (· < g) H0 [] H' g' ∧ takings_Sum_j3 (takings_Sum_l1 n a0 m3) v11 j.1 j.2.1 j.2.2 = some r) ?_ ?_
     ·rintro ⟨v13, v14, v15⟩ H g4 ⟨hS, hM⟩
      change wpA _ _ _ _ (Fr.of [(2, .i v13), (3, .i v14), (4, .i v15), (32, .sl .no 8 (a0.map Box.cells)), (33, .i (a0.length : Int)), (34, .i v11)]) _ _
      replace hS : St (· < g) H0 [] H g4 := hS
      replace hM : takings_Sum_j3 (takings_Sum_l1 n a0 m3) v11 v13 v14 v15 = some r := hM
      refine Rg 2 ?_
      refine Oi (.i (w64 (v11 + 1))) ?_
      refine Om (.i (w64 (v11 + 1))) ?_
      refine Ni ?_
      exact w_round (v13, v14, v15, w64 (v11 + 1)) (Nat.lt_succ_self _) (.k (.k (.k (.k (.k (.k .nil)))))) ⟨(hS.keep [] rfl).up (by omega), hM⟩
     ·refine r_block ?_
      refine Sq ?_
      refine Rg 4 ?_
      obtain ⟨x16, hx16, hM⟩ := bindE hM
      refine o_index (xs := a0) (f := Box.cells) (z := v11) (u := x16) (by decide) rfl rfl ty_es50 hx16 ?_
      refine Olg (.agg [.i x16.Wheel.Round, .sl .no 1 (x16.Wheel.Notches.map cI), .sl .no 1 (x16.Wheel.Coins.map cI), .sl .no 1 (x16.Found.map cI), .sl .no 1 (x16.Marked.map cI), .sl .no 1 (x16.Slugs.map cI), .i x16.Plays, .i x16.Skips]) ty_agg26 ?_
      refine o_alloc hS (by decide) ty_zero26 (by omega) fun H hS => ?_
      refine o_store (v := .agg [.i x16.Wheel.Round, .sl .no 1 (x16.Wheel.Notches.map cI), .sl .no 1 (x16.Wheel.Coins.map cI), .sl .no 1 (x16.Found.map cI), .sl .no 1 (x16.Marked.map cI), .sl .no 1 (x16.Slugs.map cI), .i x16.Plays, .i x16.Skips]) (ns := [.i x16.Wheel.Round, .sl .no 1 (x16.Wheel.Notches.map cI), .sl .no 1 (x16.Wheel.Coins.map cI), .sl .no 1 (x16.Found.map cI), .sl .no 1 (x16.Marked.map cI), .sl .no 1 (x16.Slugs.map cI), .i x16.Plays, .i x16.Skips]) (L' := [(g3 + 1 + 2, .cells [.i x16.Wheel.Round, .sl .no 1 (x16.Wheel.Notches.map cI), .sl .no 1 (x16.Wheel.Coins.map cI), .sl .no 1 (x16.Found.map cI), .sl .no 1 (x16.Marked.map cI), .sl .no 1 (x16.Slugs.map cI), .i x16.Plays, .i x16.Skips])]) 0 hS rfl rfl .no rfl rfl ty_var26 nlb rfl fun H hS => ?_
      refine Ni ?_
      refine w_iceE (L' := []) 0 10 hS rfl rfl rfl fun H hS => ?_
      refine Ws ?_
      refine Sq ?_
      refine Rg 11 ?_
      refine Olg (.agg [.i x16.Wheel.Round, .sl .no 1 (x16.Wheel.Notches.map cI), .sl .no 1 (x16.Wheel.Coins.map cI), .sl .no 1 (x16.Found.map cI), .sl .no 1 (x16.Marked.map cI), .sl .no 1 (x16.Slugs.map cI), .i x16.Plays, .i x16.Skips]) ty_agg26 ?_
      obtain ⟨r17, hr17, hM⟩ := bindE hM
      refine o_call (bs := [.agg [.i x16.Wheel.Round, .sl .no 1 (x16.Wheel.Notches.map cI), .sl .no 1 (x16.Wheel.Coins.map cI), .sl .no 1 (x16.Found.map cI), .sl .no 1 (x16.Marked.map cI), .sl .no 1 (x16.Slugs.map cI), .i x16.Plays, .i x16.Skips]]) (by decide) rfl rfl ((W_takings_Cash hr17).le (.k .nil)) ?_
      refine Om (.tup [.i r17.1, .i r17.2.1, .i r17.2.2.1, .i r17.2.2.2]) ?_
      refine Ox (.i r17.1) ?_
      refine Ox (.i r17.2.1) ?_
      refine Ox (.i r17.2.2.1) ?_
      refine Ox (.i r17.2.2.2) ?_
      refine Oa (.i r17.1) ?_
      refine Oa (.i r17.2.1) ?_
      refine Oa (.i r17.2.2.1) ?_
      refine Oa (.i r17.2.2.2) ?_
      refine Ni ?_
      refine Ws ?_
      refine Sq ?_
      refine Rg 4 ?_
      refine Om (.i v8) ?_
      refine Om (.i r17.1) ?_
      refine Oi (.i (w64 (v8 + r17.1))) ?_
      refine Oa (.i (w64 (v8 + r17.1))) ?_
      refine Ni ?_
      refine Ws ?_
      refine Sq ?_
      refine Rg 7 ?_
      refine Olg (.agg [.i x16.Wheel.Round, .sl .no 1 (x16.Wheel.Notches.map cI), .sl .no 1 (x16.Wheel.Coins.map cI), .sl .no 1 (x16.Found.map cI), .sl .no 1 (x16.Marked.map cI), .sl .no 1 (x16.Slugs.map cI), .i x16.Plays, .i x16.Skips]) ty_agg26 ?_
      obtain ⟨r18, hr18, hM⟩ := bindE hM
      refine o_call (bs := [.agg [.i x16.Wheel.Round, .sl .no 1 (x16.Wheel.Notches.map cI), .sl .no 1 (x16.Wheel.Coins.map cI), .sl .no 1 (x16.Found.map cI), .sl .no 1 (x16.Marked.map cI), .sl .no 1 (x16.Slugs.map cI), .i x16.Plays, .i x16.Skips]]) (by decide) rfl rfl ((W_takings_Missing hr18).le (.k .nil)) ?_
      refine Om (.tup [.i r18.1, .i r18.2]) ?_
      refine Ox (.i r18.1) ?_
      refine Ox (.i r18.2) ?_
      refine Oa (.i r18.1) ?_
      refine Oa (.i r18.2) ?_
      refine Ni ?_
      refine Ws ?_
      refine Sq ?_
      refine Rg 2 ?_
      refine Om (.i r18.2) ?_
      refine Oi (.b (r18.2 == 0)) ?_
      refine Ni ?_
      refine Ws ?_
      rcases bft (r18.2 == 0) with hb19 | hb19
      ·replace hM := ifT hM hb19
       refine Ct hb19 ?_
       refine Rg 4 ?_
       refine Om (.i v9) ?_
       refine Om (.i r18.1) ?_
       refine Oi (.i (w64 (v9 + r18.1))) ?_
       refine Oa (.i (w64 (v9 + r18.1))) ?_
       refine Ni ?_
       refine r_blk_normal ?_
       exact w_goto (w64 (v8 + r17.1), w64 (v9 + r18.1), v10) (.k (.k (.k (.k (.k (.k .nil)))))) ⟨(hS.keep [] rfl).up (by omega), hM⟩
      ·replace hM := ifF hM hb19
       refine Cf hb19 ?_
       refine Rg 3 ?_
       refine Om (.i v10) ?_
       refine Oi (.i (w64 (v10 + 1))) ?_
       refine Oa (.i (w64 (v10 + 1))) ?_
       refine Ni ?_
       refine r_blk_normal ?_
       exact w_goto (w64 (v8 + r17.1), v9, w64 (v10 + 1)) (.k (.k (.k (.k (.k (.k .nil)))))) ⟨(hS.keep [] rfl).up (by omega), hM⟩
    ·replace hM := ifF hM hb12
     refine Cf hb12 ?_
     refine r_exit ?_
     refine r_then_exit ?_
     refine w_round_exit ?_
     refine r_blk_exit ?_
     exact w_goto (v8, v9, v10) (.k (.k (.k .nil))) ⟨(hS.keep [] rfl).up (by omega), hM⟩
  ·refine Sq ?_
   refine Rg 3 ?_
   refine Om (.sl .no 8 (a0.map Box.cells)) ?_
   refine o_len (n := a0.length) (by decide) rfl (List.length_map _) ty_isl50 ?_
   refine Om (.i 0) ?_
   refine Ni ?_
   refine Ws ?_
   refine r_block ?_
   refine w_loop (V := Int × Int × Int × Int) (fun v => [(0, .sl .no 8 (a0.map Box.cells)), (2, .i v.1), (3, .i v.2.1), (4, .i v.2.2.1), (20, .sl .no 8 (a0.map Box.cells)), (21, .i (a0.length : Int)), (22, .i v.2.2.2)]) (fun v m5 H' g' => St (· < g) H0 [] H' g' ∧ takings_Sum_l2 n a0 m5 v.1 v.2.1 v.2.2.1 v.2.2.2 = some r) (n := n) (0, 0, 0, 0) (.k (.k (.k (.k (.k (.k (.k .nil))))))) ⟨(hS.keep [] rfl).up (by omega), hM⟩ ?_
   rintro ⟨v20, v21, v22, v23⟩ m5 H g5 ⟨hS, hM⟩
   obtain _ | m5 := m5
   ·exact nomatch (show none = some _ from hM)
   change wpA _ _ _ _ (Fr.of [(0, .sl .no 8 (a0.map Box.cells)), (2, .i v20), (3, .i v21), (4, .i v22), (20, .sl .no 8 (a0.map Box.cells)), (21, .i (a0.length : Int)), (22, .i v23)]) _ _
   replace hS : St (· < g) H0 [] H g5 := hS
   replace hM : takings_Sum_l2_b n a0 (takings_Sum_l2 n a0 m5) v20 v21 v22 v23 = some r := hM
   refine Sq ?_
   refine Rg 1 ?_
   refine Oi (.b (decide (v23 < (a0.length : Int)))) ?_
   refine Ni ?_
   refine Ws ?_
   refine Sq ?_
   rcases bft (decide (v23 < (a0.length : Int))) with hb24 | hb24
   ·replace hM := ifT hM hb24
    refine Ct hb24 ?_
    refine r_skip ?_
    refine Ws ?_
    refine Sq ?_
    refine r_block ?_
    refine Sq ?_
    refine Rg 4 ?_
    obtain ⟨x25, hx25, hM⟩ := bindE hM
    refine o_index (xs := a0) (f := Box.cells) (z := v23) (u := x25) (by decide) rfl rfl ty_es50 hx25 ?_
    refine Olg (.agg [.i x25.Wheel.Round, .sl .no 1 (x25.Wheel.Notches.map cI), .sl .no 1 (x25.Wheel.Coins.map cI), .sl .no 1 (x25.Found.map cI), .sl .no 1 (x25.Marked.map cI), .sl .no 1 (x25.Slugs.map cI), .i x25.Plays, .i x25.Skips]) ty_agg26 ?_
    refine o_alloc hS (by decide) ty_zero26 (by omega) fun H hS => ?_
    refine o_store (v := .agg [.i x25.Wheel.Round, .sl .no 1 (x25.Wheel.Notches.map cI), .sl .no 1 (x25.Wheel.Coins.map cI), .sl .no 1 (x25.Found.map cI), .sl .no 1 (x25.Marked.map cI), .sl .no 1 (x25.Slugs.map cI), .i x25.Plays, .i x25.Skips]) (ns := [.i x25.Wheel.Round, .sl .no 1 (x25.Wheel.Notches.map cI), .sl .no 1 (x25.Wheel.Coins.map cI), .sl .no 1 (x25.Found.map cI), .sl .no 1 (x25.Marked.map cI), .sl .no 1 (x25.Slugs.map cI), .i x25.Plays, .i x25.Skips]) (L' := [(g5 + 1 + 2, .cells [.i x25.Wheel.Round, .sl .no 1 (x25.Wheel.Notches.map cI), .sl .no 1 (x25.Wheel.Coins.map cI), .sl .no 1 (x25.Found.map cI), .sl .no 1 (x25.Marked.map cI), .sl .no 1 (x25.Slugs.map cI), .i x25.Plays, .i x25.Skips])]) 0 hS rfl rfl .no rfl rfl ty_var26 nlb rfl fun H hS => ?_
    refine Ni ?_
    refine w_iceE (L' := []) 0 7 hS rfl rfl rfl fun H hS => ?_
    refine Ws ?_
    refine Sq ?_
    refine Rg 3 ?_
    refine Olg (.agg [.i x25.Wheel.Round, .sl .no 1 (x25.Wheel.Notches.map cI), .sl .no 1 (x25.Wheel.Coins.map cI), .sl .no 1 (x25.Found.map cI), .sl .no 1 (x25.Marked.map cI), .sl .no 1 (x25.Slugs.map cI), .i x25.Plays, .i x25.Skips]) ty_agg26 ?_
    obtain ⟨r26, hr26, hM⟩ := bindE hM
    refine o_call (bs := [.agg [.i x25.Wheel.Round, .sl .no 1 (x25.Wheel.Notches.map cI), .sl .no 1 (x25.Wheel.Coins.map cI), .sl .no 1 (x25.Found.map cI), .sl .no 1 (x25.Marked.map cI), .sl .no 1 (x25.Slugs.map cI), .i x25.Plays, .i x25.Skips]]) (by decide) rfl rfl ((W_takings_Check hr26).le (.k .nil)) ?_
    refine Oa (.i r26) ?_
    refine Ni ?_
    refine Ws ?_
    refine Sq ?_
    refine Rg 2 ?_
    refine Om (.i r26) ?_
    refine Oi (.b (r26 != 0)) ?_
    refine Ni ?_
    refine Ws ?_
    rcases bft (r26 != 0) with hb27 | hb27
    ·replace hM := ifT hM hb27
     refine Ct hb27 ?_
     refine Sq ?_
     refine Rg 5 ?_
     refine Om (.i r26) ?_
     refine Oa (.i 0) ?_
     refine Oa (.i 0) ?_
     refine Oa (.i 0) ?_
     refine Oa (.i r26) ?_
     refine Ni ?_
     refine Ws ?_
     refine r_ret ?_
     refine r_blk_ret ?_
     refine r_then_ret ?_
     refine w_round_ret ?_
     refine r_blk_ret ?_
     refine w_goto_ret ?_
     refine w_end (x := .tup [.i 0, .i 0, .i 0, .i r26]) (f := fun r => .tup [.i r.1, .i r.2.1, .i r.2.2.1, .i r.2.2.2]) (.inr rfl) ?_ (.refl _) (Option.some.inj hM) hS
     exact (res_four (res_tmp (x := .i 0) rfl) (res_tmp (x := .i 0) rfl) (res_tmp (x := .i 0) rfl) (res_tmp (x := .i r26) rfl))
    ·replace hM := ifF hM hb27
     refine Cf hb27 ?_
     refine r_skip ?_
     refine r_blk_normal ?_
     refine Ws ?_
     refine Rg 2 ?_
     refine Oi (.i (w64 (v23 + 1))) ?_
     refine Om (.i (w64 (v23 + 1))) ?_
     refine Ni ?_
     exact w_round (v20, v21, v22, w64 (v23 + 1)) (Nat.lt_succ_self _) (.k (.k (.k (.k (.k (.k (.k .nil))))))) ⟨(hS.keep [] rfl).up (by omega), hM⟩
   ·replace hM := ifF hM hb24
    refine Cf hb24 ?_
    refine r_exit ?_
    refine r_then_exit ?_
    refine w_round_exit ?_
    refine r_blk_exit ?_
    exact w_goto (v20, v21, v22) (.k (.k (.k (.k .nil)))) ⟨(hS.keep [] rfl).up (by omega), hM⟩
theorem W_law05_TakingsJoined {n : Nat} {a0 : List Box} {a1 : List Box} {r : Bool} (hM : law05_TakingsJoined n a0 a1 = some r) : PureSat Try.prog 10 [.sl .no 8 (a0.map Box.cells), .sl .no 8 (a1.map Box.cells)] (.b r) := by
 refine pure_of_wp mixed Try.func10 rfl (by decide) Try.ntmps10 (by simp) ?pure fun H0 g hf => ?_
 case pure => exact .v _
 rw [frame0_of]
 change wpA _ _ _ _ (Fr.of [(0, .sl .no 8 (a0.map Box.cells)), (1, .sl .no 8 (a1.map Box.cells))]) H0 g
 have hS := St.start hf
 refine Sq ?_
 refine Rg 1 ?_
 refine Oa (.b false) ?_
 refine Ni ?_
 refine Ws ?_
 refine Sq ?_
 refine w_join (J := Bool) (fun j => [(0, .sl .no 8 (a0.map Box.cells)), (1, .sl .no 8 (a1.map Box.cells)), (26, .b j)]) (fun j H' g' => St (· < g) H0 [] H' g' ∧ law05_TakingsJoined_j1 n a0 a1 j = some r) ?_ ?_
 ·rintro v1 H g1 ⟨hS, hM⟩
  change wpA _ _ _ _ (Fr.of [(0, .sl .no 8 (a0.map Box.cells)), (1, .sl .no 8 (a1.map Box.cells)), (26, .b v1)]) _ _
  replace hS : St (· < g) H0 [] H g1 := hS
  replace hM : law05_TakingsJoined_j1 n a0 a1 v1 = some r := hM
  rcases bft v1 with hb2 | hb2
  ·replace hM := ifT hM hb2
   refine Ct hb2 ?_
   refine Sq ?_
   refine Rg 2 ?_
   obtain ⟨r3, hr3, hM⟩ := bindE hM
   refine o_call (bs := []) (by decide) rfl rfl ((W_law05_works hr3).le .nil) ?_
   refine Oa (.b r3) ?_
   refine Ni ?_
   refine Ws ?_
   refine r_ret ?_
   refine r_then_ret ?_
   refine w_end (x := .b r3) (f := fun r => .b r) (.inr rfl) ?_ (.refl _) (Option.some.inj hM) hS
   exact (res_one (res_tmp (x := .b r3) rfl))
  ·replace hM := ifF hM hb2
   refine Cf hb2 ?_
   refine r_skip ?_
   refine Ws ?_
   refine Sq ?_
   refine Rg 6 ?_
   refine o_buildSlice (es := []) hS (by decide) ty_es50 ty_el50 rfl ty_ef50 rfl (by decide) (by omega) fun H hS => ?_
   refine Om (.sl .no 8 (a0.map Box.cells)) ?_
   obtain ⟨l4, hl4, hM⟩ := bindE hM
   refine o_append (xs := ([] : List Box)) (ys := a0) (zs := l4) (f := Box.cells) (L' := [(g1 + 0, .row 26 l4.length)]) 0 hS (by decide) rfl rfl rfl rfl .no ty_es50 ty_el50 ty_ef50 hl4 rfl fun H hS => ?_
   refine Om (.sl .no 8 (a1.map Box.cells)) ?_
   obtain ⟨l5, hl5, hM⟩ := bindE hM
   refine o_append (xs := l4) (ys := a1) (zs := l5) (f := Box.cells) (L' := [(g1 + 0, .row 26 l5.length)]) 0 hS (by decide) rfl rfl rfl rfl .no ty_es50 ty_el50 ty_ef50 hl5 rfl fun H hS => ?_
   refine Oa (.sl (.id (g1 + 0)) 8 (l5.map Box.cells)) ?_
   refine Ni ?_
   refine Ws ?_
   refine w_join (J := Unit) (fun j => [(0, .sl .no 8 (a0.map Box.cells)), (1, .sl .no 8 (a1.map Box.cells)), (5, .sl (.id (g1 + 0)) 8 (l5.map Box.cells))]) (fun j H' g' => St (· < g) H0 [(g1 + 0, .row 26 l5.length)] H' g' ∧ law05_TakingsJoined_j2 n a0 a1 l5 = some r) ?_ ?_
   ·rintro _ H g2 ⟨hS, hM⟩
    change wpA _ _ _ _ (Fr.of [(0, .sl .no 8 (a0.map Box.cells)), (1, .sl .no 8 (a1.map Box.cells)), (5, .sl (.id (g1 + 0)) 8 (l5.map Box.cells))]) _ _
    replace hS : St (· < g) H0 [(g1 + 0, .row 26 l5.length)] H g2 := hS
    replace hM : law05_TakingsJoined_j2 n a0 a1 l5 = some r := hM
    refine Sq ?_
    refine Rg 13 ?_
    refine o_buildSlice (es := []) hS (by decide) ty_es50 ty_el50 rfl ty_ef50 rfl (by decide) (by omega) fun H hS => ?_
    refine Om (.sl .no 8 (a0.map Box.cells)) ?_
    obtain ⟨l6, hl6, hM⟩ := bindE hM
    refine o_append (xs := ([] : List Box)) (ys := a0) (zs := l6) (f := Box.cells) (L' := [(g2 + 0, .row 26 l6.length), (g1 + 0, .row 26 l5.length)]) 0 hS (by decide) rfl rfl rfl rfl .no ty_es50 ty_el50 ty_ef50 hl6 rfl fun H hS => ?_
    obtain ⟨r7, hr7, hM⟩ := bindE hM
    refine o_call (bs := [.sl (.id (g2 + 0)) 8 (l6.map Box.cells)]) (by decide) rfl rfl ((W_takings_Sum hr7).le (.cons (.sl _ _ _) .nil)) ?_
    refine Om (.tup [.i r7.1, .i r7.2.1, .i r7.2.2.1, .i r7.2.2.2]) ?_
    refine Ox (.i r7.1) ?_
    refine Ox (.i r7.2.1) ?_
    refine Ox (.i r7.2.2.1) ?_
    refine Ox (.i r7.2.2.2) ?_
    refine Oa (.i r7.1) ?_
    refine Oa (.i r7.2.1) ?_
    refine Oa (.i r7.2.2.1) ?_
    refine Oa (.i r7.2.2.2) ?_
    refine Ni ?_
    replace hS := hS.keep (L' := [(g1 + 0, .row 26 l5.length)]) [false, true] rfl
    refine Ws ?_
    refine Sq ?_
    refine Rg 13 ?_
    refine o_buildSlice (es := []) hS (by decide) ty_es50 ty_el50 rfl ty_ef50 rfl (by decide) (by omega) fun H hS => ?_
    refine Om (.sl .no 8 (a1.map Box.cells)) ?_
    obtain ⟨l8, hl8, hM⟩ := bindE hM
    refine o_append (xs := ([] : List Box)) (ys := a1) (zs := l8) (f := Box.cells) (L' := [(g2 + 13 + 0, .row 26 l8.length), (g1 + 0, .row 26 l5.length)]) 0 hS (by decide) rfl rfl rfl rfl .no ty_es50 ty_el50 ty_ef50 hl8 rfl fun H hS => ?_
    obtain ⟨r9, hr9, hM⟩ := bindE hM
    refine o_call (bs := [.sl (.id (g2 + 13 + 0)) 8 (l8.map Box.cells)]) (by decide) rfl rfl ((W_takings_Sum hr9).le (.cons (.sl _ _ _) .nil)) ?_
    refine Om (.tup [.i r9.1, .i r9.2.1, .i r9.2.2.1, .i r9.2.2.2]) ?_
    refine Ox (.i r9.1) ?_
    refine Ox (.i r9.2.1) ?_
    refine Ox (.i r9.2.2.1) ?_
    refine Ox (.i r9.2.2.2) ?_
    refine Oa (.i r9.1) ?_
    refine Oa (.i r9.2.1) ?_
    refine Oa (.i r9.2.2.1) ?_
    refine Oa (.i r9.2.2.2) ?_
    refine Ni ?_
    replace hS := hS.keep (L' := [(g1 + 0, .row 26 l5.length)]) [false, true] rfl
    refine Ws ?_
    refine Sq ?_
    refine Rg 11 ?_
    refine Om (.sl (.id (g1 + 0)) 8 (l5.map Box.cells)) ?_
    obtain ⟨r10, hr10, hM⟩ := bindE hM
    refine o_call (bs := [.sl (.id (g1 + 0)) 8 (l5.map Box.cells)]) (by decide) rfl rfl ((W_takings_Sum hr10).le (.cons (.sl _ _ _) .nil)) ?_
    refine Om (.tup [.i r10.1, .i r10.2.1, .i r10.2.2.1, .i r10.2.2.2]) ?_
    refine Ox (.i r10.1) ?_
    refine Ox (.i r10.2.1) ?_
    refine Ox (.i r10.2.2.1) ?_
    refine Ox (.i r10.2.2.2) ?_
    refine Oa (.i r10.1) ?_
    refine Oa (.i r10.2.1) ?_
    refine Oa (.i r10.2.2.1) ?_
    refine Oa (.i r10.2.2.2) ?_
    refine Ni ?_
    replace hS := hS.keep (L' := []) [false] rfl
    refine Ws ?_
    refine w_join (J := Bool) (fun j => [(4, .b j)]) (fun j H' g' => St (· < g) H0 [] H' g' ∧ law05_TakingsJoined_j3 j = some r) ?_ ?_
    ·rintro v11 H g3 ⟨hS, hM⟩
     change wpA _ _ _ _ (Fr.of [(4, .b v11)]) _ _
     replace hS : St (· < g) H0 [] H g3 := hS
     replace hM : law05_TakingsJoined_j3 v11 = some r := hM
     refine r_ret ?_
     refine w_end (x := .b v11) (f := fun r => .b r) (.inr rfl) ?_ (.refl _) (Option.some.inj hM) hS
     exact (res_one (res_tmp (x := .b v11) rfl))
    ·refine Rg 35 ?_
     refine Om (.i r7.2.2.2) ?_
     refine Oi (.b (r7.2.2.2 == 0)) ?_
     refine Om (.b (r7.2.2.2 == 0)) ?_
     rcases bft (r7.2.2.2 == 0) with hb12 | hb12
     ·replace hM := ifT hM hb12
      refine Oy (want := true) hb12 ?_
      refine Om (.i r9.2.2.2) ?_
      refine Oy (want := true) hb12 ?_
      refine Oi (.b (r9.2.2.2 == 0)) ?_
      refine Pt (.b (r9.2.2.2 == 0)) hb12 ?_
      refine Om (.b (r9.2.2.2 == 0)) ?_
      rcases bft (r9.2.2.2 == 0) with hb13 | hb13
      ·replace hM := ifT hM hb13
       refine Oy (want := true) hb13 ?_
       refine Om (.i r10.2.2.2) ?_
       refine Oy (want := true) hb13 ?_
       refine Oi (.b (r10.2.2.2 == 0)) ?_
       refine Pt (.b (r10.2.2.2 == 0)) hb13 ?_
       refine Om (.b (r10.2.2.2 == 0)) ?_
       rcases bft (r10.2.2.2 == 0) with hb14 | hb14
       ·replace hM := ifT hM hb14
        refine Oy (want := true) hb14 ?_
        refine Om (.i r10.1) ?_
        refine Oy (want := true) hb14 ?_
        refine Om (.i r7.1) ?_
        refine Oy (want := true) hb14 ?_
        refine Om (.i r9.1) ?_
        refine Oy (want := true) hb14 ?_
        refine Oi (.i (w64 (r7.1 + r9.1))) ?_
        refine Oy (want := true) hb14 ?_
        refine Oi (.b (r10.1 == (w64 (r7.1 + r9.1)))) ?_
        refine Pt (.b (r10.1 == (w64 (r7.1 + r9.1)))) hb14 ?_
        refine Om (.b (r10.1 == (w64 (r7.1 + r9.1)))) ?_
        rcases bft (r10.1 == (w64 (r7.1 + r9.1))) with hb15 | hb15
        ·replace hM := ifT hM hb15
         refine Oy (want := true) hb15 ?_
         refine Om (.i r10.2.1) ?_
         refine Oy (want := true) hb15 ?_
         refine Om (.i r7.2.1) ?_
         refine Oy (want := true) hb15 ?_
         refine Om (.i r9.2.1) ?_
         refine Oy (want := true) hb15 ?_
         refine Oi (.i (w64 (r7.2.1 + r9.2.1))) ?_
         refine Oy (want := true) hb15 ?_
         refine Oi (.b (r10.2.1 == (w64 (r7.2.1 + r9.2.1)))) ?_
         refine Pt (.b (r10.2.1 == (w64 (r7.2.1 + r9.2.1)))) hb15 ?_
         refine Om (.b (r10.2.1 == (w64 (r7.2.1 + r9.2.1)))) ?_
         rcases bft (r10.2.1 == (w64 (r7.2.1 + r9.2.1))) with hb16 | hb16
         ·replace hM := ifT hM hb16
          refine Oy (want := true) hb16 ?_
          refine Om (.i r10.2.2.1) ?_
          refine Oy (want := true) hb16 ?_
          refine Om (.i r7.2.2.1) ?_
          refine Oy (want := true) hb16 ?_
          refine Om (.i r9.2.2.1) ?_
          refine Oy (want := true) hb16 ?_
          refine Oi (.i (w64 (r7.2.2.1 + r9.2.2.1))) ?_
          refine Oy (want := true) hb16 ?_
          refine Oi (.b (r10.2.2.1 == (w64 (r7.2.2.1 + r9.2.2.1)))) ?_
          refine Pt (.b (r10.2.2.1 == (w64 (r7.2.2.1 + r9.2.2.1)))) hb16 ?_
          refine Om (.b (r10.2.2.1 == (w64 (r7.2.2.1 + r9.2.2.1)))) ?_
          rcases bft (r10.2.2.1 == (w64 (r7.2.2.1 + r9.2.2.1))) with hb17 | hb17
          ·replace hM := ifT hM hb17
           refine Oy (want := true) hb17 ?_
           obtain ⟨r18, hr18, hM⟩ := bindE hM
           refine o_call (bs := []) (by decide) rfl rfl ((W_law05_works hr18).le .nil) ?_
           refine Pt (.b r18) hb17 ?_
           refine Oa (.b r18) ?_
           refine Ni ?_
           exact w_goto r18 (.k .nil) ⟨(hS.keep [] rfl).up (by omega), hM⟩
          ·replace hM := ifF hM hb17
           refine On (want := true) hb17 ?_
           refine Pf (.b false) hb17 ?_
           refine Oa (.b false) ?_
           refine Ni ?_
           exact w_goto false (.k .nil) ⟨(hS.keep [] rfl).up (by omega), hM⟩
         ·replace hM := ifF hM hb16
          refine On (want := true) hb16 ?_
          refine On (want := true) hb16 ?_
          refine On (want := true) hb16 ?_
          refine On (want := true) hb16 ?_
          refine On (want := true) hb16 ?_
          refine Pf (.b false) hb16 ?_
          refine Om (.b false) ?_
          refine Og ?_
          refine o_pickF (v := .b false) (e := false) (by decide) rfl rfl rfl ?_
          refine Oa (.b false) ?_
          refine Ni ?_
          exact w_goto false (.k .nil) ⟨(hS.keep [] rfl).up (by omega), hM⟩
        ·replace hM := ifF hM hb15
         refine On (want := true) hb15 ?_
         refine On (want := true) hb15 ?_
         refine On (want := true) hb15 ?_
         refine On (want := true) hb15 ?_
         refine On (want := true) hb15 ?_
         refine Pf (.b false) hb15 ?_
         refine Om (.b false) ?_
         refine Og ?_
         refine Og ?_
         refine Og ?_
         refine Og ?_
         refine Og ?_
         refine o_pickF (v := .b false) (e := false) (by decide) rfl rfl rfl ?_
         refine Om (.b false) ?_
         refine Og ?_
         refine o_pickF (v := .b false) (e := false) (by decide) rfl rfl rfl ?_
         refine Oa (.b false) ?_
         refine Ni ?_
         exact w_goto false (.k .nil) ⟨(hS.keep [] rfl).up (by omega), hM⟩
       ·replace hM := ifF hM hb14
        refine On (want := true) hb14 ?_
        refine On (want := true) hb14 ?_
        refine On (want := true) hb14 ?_
        refine On (want := true) hb14 ?_
        refine On (want := true) hb14 ?_
        refine Pf (.b false) hb14 ?_
        refine Om (.b false) ?_
        refine Og ?_
        refine Og ?_
        refine Og ?_
        refine Og ?_
        refine Og ?_
        refine o_pickF (v := .b false) (e := false) (by decide) rfl rfl rfl ?_
        refine Om (.b false) ?_
        refine Og ?_
        refine Og ?_
        refine Og ?_
        refine Og ?_
        refine Og ?_
        refine o_pickF (v := .b false) (e := false) (by decide) rfl rfl rfl ?_
        refine Om (.b false) ?_
        refine Og ?_
        refine o_pickF (v := .b false) (e := false) (by decide) rfl rfl rfl ?_
        refine Oa (.b false) ?_
        refine Ni ?_
        exact w_goto false (.k .nil) ⟨(hS.keep [] rfl).up (by omega), hM⟩
      ·replace hM := ifF hM hb13
       refine On (want := true) hb13 ?_
       refine On (want := true) hb13 ?_
       refine Pf (.b false) hb13 ?_
       refine Om (.b false) ?_
       refine Og ?_
       refine Og ?_
       refine Og ?_
       refine Og ?_
       refine Og ?_
       refine o_pickF (v := .b false) (e := false) (by decide) rfl rfl rfl ?_
       refine Om (.b false) ?_
       refine Og ?_
       refine Og ?_
       refine Og ?_
       refine Og ?_
       refine Og ?_
       refine o_pickF (v := .b false) (e := false) (by decide) rfl rfl rfl ?_
       refine Om (.b false) ?_
       refine Og ?_
       refine Og ?_
       refine Og ?_
       refine Og ?_
       refine Og ?_
       refine o_pickF (v := .b false) (e := false) (by decide) rfl rfl rfl ?_
       refine Om (.b false) ?_
       refine Og ?_
       refine o_pickF (v := .b false) (e := false) (by decide) rfl rfl rfl ?_
       refine Oa (.b false) ?_
       refine Ni ?_
       exact w_goto false (.k .nil) ⟨(hS.keep [] rfl).up (by omega), hM⟩
     ·replace hM := ifF hM hb12
      refine On (want := true) hb12 ?_
      refine On (want := true) hb12 ?_
      refine Pf (.b false) hb12 ?_
      refine Om (.b false) ?_
      refine Og ?_
      refine Og ?_
      refine o_pickF (v := .b false) (e := false) (by decide) rfl rfl rfl ?_
      refine Om (.b false) ?_
      refine Og ?_
      refine Og ?_
      refine Og ?_
      refine Og ?_
      refine Og ?_
      refine o_pickF (v := .b false) (e := false) (by decide) rfl rfl rfl ?_
      refine Om (.b false) ?_
      refine Og ?_
      refine Og ?_
      refine Og ?_
      refine Og ?_
      refine Og ?_
      refine o_pickF (v := .b false) (e := false) (by decide) rfl rfl rfl ?_
      refine Om (.b false) ?_
      refine Og ?_
      refine Og ?_
      refine Og ?_
      refine Og ?_
      refine Og ?_
      refine o_pickF (v := .b false) (e := false) (by decide) rfl rfl rfl ?_
      refine Om (.b false) ?_
      refine Og ?_
      refine o_pickF (v := .b false) (e := false) (by decide) rfl rfl rfl ?_
      refine Oa (.b false) ?_
      refine Ni ?_
      exact w_goto false (.k .nil) ⟨(hS.keep [] rfl).up (by omega), hM⟩
   ·refine Sq ?_
    refine Rg 1 ?_
    refine Oa (.i 0) ?_
    refine Ni ?_
    refine Ws ?_
    refine r_block ?_
    refine w_loop (V := Int) (fun v => [(0, .sl .no 8 (a0.map Box.cells)), (1, .sl .no 8 (a1.map Box.cells)), (5, .sl (.id (g1 + 0)) 8 (l5.map Box.cells)), (6, .i v)]) (fun v m4 H' g' => St (· < g) H0 [(g1 + 0, .row 26 l5.length)] H' g' ∧ law05_TakingsJoined_l1 n a0 a1 l5 m4 v = some r) (n := n) 0 (.k (.k (.k (.k .nil)))) ⟨(hS.keep [true] rfl).up (by omega), hM⟩ ?_
    rintro v19 m4 H g4 ⟨hS, hM⟩
    obtain _ | m4 := m4
    ·exact nomatch (show none = some _ from hM)
    change wpA _ _ _ _ (Fr.of [(0, .sl .no 8 (a0.map Box.cells)), (1, .sl .no 8 (a1.map Box.cells)), (5, .sl (.id (g1 + 0)) 8 (l5.map Box.cells)), (6, .i v19)]) _ _
    replace hS : St (· < g) H0 [(g1 + 0, .row 26 l5.length)] H g4 := hS
    replace hM : law05_TakingsJoined_l1_b n a0 a1 l5 (law05_TakingsJoined_l1 n a0 a1 l5 m4) v19 = some r := hM
    refine Sq ?_
    refine Sq ?_
    refine Rg 4 ?_
    refine Om (.i v19) ?_
    refine Om (.sl (.id (g1 + 0)) 8 (l5.map Box.cells)) ?_
    refine o_len (n := l5.length) (by decide) rfl (List.length_map _) ty_isl50 ?_
    refine Oi (.b (decide (v19 < (l5.length : Int)))) ?_
    refine Ni ?_
    refine Ws ?_
    rcases bft (decide (v19 < (l5.length : Int))) with hb20 | hb20
    ·replace hM := ifT hM hb20
     refine Ct hb20 ?_
     refine r_skip ?_
     refine Ws ?_
     refine Sq ?_
     refine r_block ?_
     refine Sq ?_
     refine Rg 6 ?_
     refine Om (.sl (.id (g1 + 0)) 8 (l5.map Box.cells)) ?_
     refine Om (.i v19) ?_
     obtain ⟨x21, hx21, hM⟩ := bindE hM
     refine o_index (xs := l5) (f := Box.cells) (z := v19) (u := x21) (by decide) rfl rfl ty_es50 hx21 ?_
     refine Olg (.agg [.i x21.Wheel.Round, .sl .no 1 (x21.Wheel.Notches.map cI), .sl .no 1 (x21.Wheel.Coins.map cI), .sl .no 1 (x21.Found.map cI), .sl .no 1 (x21.Marked.map cI), .sl .no 1 (x21.Slugs.map cI), .i x21.Plays, .i x21.Skips]) ty_agg26 ?_
     obtain ⟨r22, hr22, hM⟩ := bindE hM
     refine o_call (bs := [.agg [.i x21.Wheel.Round, .sl .no 1 (x21.Wheel.Notches.map cI), .sl .no 1 (x21.Wheel.Coins.map cI), .sl .no 1 (x21.Found.map cI), .sl .no 1 (x21.Marked.map cI), .sl .no 1 (x21.Slugs.map cI), .i x21.Plays, .i x21.Skips]]) (by decide) rfl rfl ((W_law05_ready hr22).le (.k .nil)) ?_
     refine o_not (e := r22) (by decide) rfl ?_
     refine Ni ?_
     refine Ws ?_
     rcases bft (!r22) with hb23 | hb23
     ·replace hM := ifT hM hb23
      refine Ct hb23 ?_
      refine Sq ?_
      refine Rg 2 ?_
      obtain ⟨r24, hr24, hM⟩ := bindE hM
      refine o_call (bs := []) (by decide) rfl rfl ((W_law05_works hr24).le .nil) ?_
      refine Oa (.b r24) ?_
      refine Ni ?_
      replace hS := hS.keep (L' := []) [false] rfl
      refine Ws ?_
      refine r_ret ?_
      refine r_blk_ret ?_
      refine r_then_ret ?_
      refine w_round_ret ?_
      refine r_blk_ret ?_
      refine w_goto_ret ?_
      refine w_end (x := .b r24) (f := fun r => .b r) (.inr rfl) ?_ (.refl _) (Option.some.inj hM) hS
      exact (res_one (res_tmp (x := .b r24) rfl))
     ·replace hM := ifF hM hb23
      refine Cf hb23 ?_
      refine r_skip ?_
      refine r_blk_normal ?_
      refine Ws ?_
      refine Rg 3 ?_
      refine Om (.i v19) ?_
      refine Oi (.i (w64 (v19 + 1))) ?_
      refine Oa (.i (w64 (v19 + 1))) ?_
      refine Ni ?_
      exact w_round (w64 (v19 + 1)) (Nat.lt_succ_self _) (.k (.k (.k (.k .nil)))) ⟨(hS.keep [true] rfl).up (by omega), hM⟩
    ·replace hM := ifF hM hb20
     refine Cf hb20 ?_
     refine r_exit ?_
     refine r_then_exit ?_
     refine w_round_exit ?_
     refine r_blk_exit ?_
     exact w_goto () (.k (.k (.k .nil))) ⟨(hS.keep [true] rfl).up (by omega), hM⟩
 ·refine Rg 8 ?_
  refine Om (.sl .no 8 (a0.map Box.cells)) ?_
  refine o_len (n := a0.length) (by decide) rfl (List.length_map _) ty_isl50 ?_
  refine Oi (.b (decide ((a0.length : Int) > 2))) ?_
  refine Om (.b (decide ((a0.length : Int) > 2))) ?_
  rcases bft (decide ((a0.length : Int) > 2)) with hb25 | hb25
  ·replace hM := ifT hM hb25
   refine On (want := false) hb25 ?_
   refine On (want := false) hb25 ?_
   refine On (want := false) hb25 ?_
   refine Pt (.b true) hb25 ?_
   refine Ni ?_
   exact w_goto true (.k (.k (.k .nil))) ⟨(hS.keep [] rfl).up (by omega), hM⟩
  ·replace hM := ifF hM hb25
   refine Oy (want := false) hb25 ?_
   refine Om (.sl .no 8 (a1.map Box.cells)) ?_
   refine Oy (want := false) hb25 ?_
   refine o_len (n := a1.length) (by decide) rfl (List.length_map _) ty_isl50 ?_
   refine Oy (want := false) hb25 ?_
   refine Oi (.b (decide ((a1.length : Int) > 2))) ?_
   refine Pf (.b (decide ((a1.length : Int) > 2))) hb25 ?_
   refine Ni ?_
   exact w_goto (decide ((a1.length : Int) > 2)) (.k (.k (.k .nil))) ⟨(hS.keep [] rfl).up (by omega), hM⟩
end Go.Proofs.Ytenogpmlhpcibaa
