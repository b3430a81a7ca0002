/-
  The code returns what the functions say (printed by gen.py).
  Conditions: none.
-/
import Derived.Test.YtapcibbbmeomkaaWkCoinsSum2
import Derived.Test.YtapcibbbmeomkaaSh
set_option linter.all false
namespace Go.Proofs.Ytapcibbbmeomkaa
open Go Go.AM Go.Law
set_option linter.unusedVariables false
set_option maxRecDepth 4000
set_option maxHeartbeats 4000000
theorem W_ref01_Rising {n : Nat} {a0 : List Int} {a1 : Int} {a2 : Int} {r : Bool} (hM : ref01_Rising n a0 a1 a2 = some r) : PureSat Try.prog 73 [.sl .no 1 (a0.map cI), .i a1, .i a2] (.b r) := by
 refine pure_of_wp mixed Try.func73 rfl (by decide) Try.ntmps73 (by simp) ?pure fun H0 g hf => ?_
 case pure => exact .v _
 rw [frame0_of]
 change wpA _ _ _ _ (Fr.of [(0, .sl .no 1 (a0.map cI)), (1, .i a1), (2, .i a2)]) H0 g
 have hS := St.start hf
 refine r_seq ?_
 refine r_region (n := 1) rfl ?_
 refine o_assign (v := .b false) (by decide) rfl ?_
 refine run_nil ?_
 refine w_next [(0, .sl .no 1 (a0.map cI)), (1, .i a1), (2, .i a2)] (.k (.k (.k .nil))) ?_
 refine w_join (J := Unit) (fun j => []) (fun j H' g' => St (· < g) H0 [] H' g' ∧ ref01_Rising_j1 = some r) ?_ ?_
 ·rintro _ H g1 ⟨hS, hM⟩
  change wpA _ _ _ _ (Fr.of []) _ _
  replace hS : St (· < g) H0 [] H g1 := hS
  replace hM : ref01_Rising_j1 = some r := hM
  refine r_seq ?_
  refine r_region (n := 1) rfl ?_
  refine o_assign (v := .b true) (by decide) rfl ?_
  refine run_nil ?_
  refine w_next [(6, .b true)] (.k .nil) ?_
  refine r_ret ?_
  refine w_end (x := .b true) (f := fun r => .b r) (.inr rfl) ?_ (.refl _) (Option.some.inj hM) hS
  exact (res_one (res_tmp (x := .b true) rfl))
 ·refine r_seq ?_
  refine r_region (n := 1) rfl ?_
  refine o_assign (v := .i 0) (by decide) rfl ?_
  refine run_nil ?_
  refine w_next [(0, .sl .no 1 (a0.map cI)), (1, .i a1), (2, .i a2), (7, .i 0)] (.k (.k (.k (.k .nil)))) ?_
  refine r_block ?_
  refine w_loop (V := Int) (fun v => [(0, .sl .no 1 (a0.map cI)), (1, .i a1), (2, .i a2), (7, .i v)]) (fun v m2 H' g' => St (· < g) H0 [] H' g' ∧ ref01_Rising_l1 a0 a1 a2 m2 v = some r) (n := n) 0 (.k (.k (.k (.k .nil)))) ⟨(hS.keep [] rfl).up (by omega), hM⟩ ?_
  rintro v1 m2 H g2 ⟨hS, hM⟩
  obtain _ | m2 := m2
  ·exact nomatch (show none = some _ from hM)
  change wpA _ _ _ _ (Fr.of [(0, .sl .no 1 (a0.map cI)), (1, .i a1), (2, .i a2), (7, .i v1)]) _ _
  replace hS : St (· < g) H0 [] H g2 := hS
  replace hM : ref01_Rising_l1_b a0 a1 a2 (ref01_Rising_l1 a0 a1 a2 m2) v1 = some r := hM
  refine r_seq ?_
  refine r_seq ?_
  refine r_region (n := 4) rfl ?_
  refine o_move (v := .i v1) (by decide) rfl ?_
  refine o_move (v := .sl .no 1 (a0.map cI)) (by decide) rfl ?_
  refine o_len (n := a0.length) (by decide) rfl (List.length_map _) ty_isl22 ?_
  refine o_int (v := .b (decide (v1 < (a0.length : Int)))) (by decide) rfl rfl rfl ?_
  refine run_nil ?_
  refine w_next [(0, .sl .no 1 (a0.map cI)), (1, .i a1), (2, .i a2), (7, .i v1), (11, .b (decide (v1 < (a0.length : Int))))] (.k (.k (.k (.k (.k .nil))))) ?_
  rcases Bool.eq_false_or_eq_true (decide (v1 < (a0.length : Int))) with hb2 | hb2
  ·replace hM := ifT hM hb2
   refine w_condT (e := (decide (v1 < (a0.length : Int)))) rfl hb2 ?_
   refine r_skip ?_
   refine w_next [(0, .sl .no 1 (a0.map cI)), (1, .i a1), (2, .i a2), (7, .i v1)] (.k (.k (.k (.k .nil)))) ?_
   refine r_seq ?_
   refine r_block ?_
   refine w_join (J := Bool) (fun j => [(0, .sl .no 1 (a0.map cI)), (1, .i a1), (2, .i a2), (7, .i v1), (37, .b j)]) (fun j H' g' => St (· < g) H0 [] H' g' ∧ ref01_Rising_j2 (ref01_Rising_l1 a0 a1 a2 m2) v1 j = some r) ?_ ?_
   ·rintro v3 H g3 ⟨hS, hM⟩
    change wpA _ _ _ _ (Fr.of [(0, .sl .no 1 (a0.map cI)), (1, .i a1), (2, .i a2), (7, .i v1), (37, .b v3)]) _ _
    replace hS : St (· < g) H0 [] H g3 := hS
    replace hM : ref01_Rising_j2 (ref01_Rising_l1 a0 a1 a2 m2) v1 v3 = some r := hM
    rcases Bool.eq_false_or_eq_true v3 with hb4 | hb4
    ·replace hM := ifT hM hb4
     refine w_condT (e := v3) rfl hb4 ?_
     refine r_seq ?_
     refine r_region (n := 1) rfl ?_
     refine o_assign (v := .b false) (by decide) rfl ?_
     refine run_nil ?_
     refine w_next [(6, .b false)] (.k .nil) ?_
     refine r_ret ?_
     refine r_blk_ret ?_
     refine r_then_ret ?_
     refine w_round_ret ?_
     refine r_blk_ret ?_
     refine w_goto_ret ?_
     refine w_end (x := .b false) (f := fun r => .b r) (.inr rfl) ?_ (.refl _) (Option.some.inj hM) hS
     exact (res_one (res_tmp (x := .b false) rfl))
    ·replace hM := ifF hM hb4
     refine w_condF (e := v3) rfl hb4 ?_
     refine r_skip ?_
     refine r_blk_normal ?_
     refine w_next [(0, .sl .no 1 (a0.map cI)), (1, .i a1), (2, .i a2), (7, .i v1)] (.k (.k (.k (.k .nil)))) ?_
     refine r_region (n := 3) rfl ?_
     refine o_move (v := .i v1) (by decide) rfl ?_
     refine o_int (v := .i (w64 (v1 + 1))) (by decide) rfl rfl rfl ?_
     refine o_assign (v := .i (w64 (v1 + 1))) (by decide) rfl ?_
     refine run_nil ?_
     exact w_round (w64 (v1 + 1)) (Nat.lt_succ_self _) (.k (.k (.k (.k .nil)))) ⟨(hS.keep [] rfl).up (by omega), hM⟩
   ·have hS0 := hS
    refine r_draw (n := 24) rfl (by kernel_rfl) ?_
    refine o_move (v := .sl .no 1 (a0.map cI)) (by decide) rfl ?_
    refine o_move (v := .i v1) (by decide) rfl ?_
    obtain ⟨x5, hx5, hM⟩ := bindE hM
    refine o_index (xs := a0) (f := cI) (z := v1) (u := x5) (by decide) rfl rfl ty_es22 hx5 ?_
    refine o_loadE (v := .i x5) (by decide) rfl (part_one ty_agg3 ty_sc3 rfl) ?_
    refine o_move (v := .i a1) (by decide) rfl ?_
    refine o_move (v := .i a2) (by decide) rfl ?_
    obtain ⟨r6, hr6, hM⟩ := bindE hM
    refine o_call (bs := [.i x5, .i a1, .i a2]) (by decide) rfl rfl ((W_ref01_Within hr6).le (.k (.k (.k .nil)))) ?_
    refine o_not (e := r6) (by decide) rfl ?_
    refine o_move (v := .b (!r6)) (by decide) rfl ?_
    rcases Bool.eq_false_or_eq_true (!r6) with hb7 | hb7
    ·replace hM := ifT hM hb7
     refine o_guardN (j := 8) (e := (!r6)) (want := false) (by decide) rfl hb7 ?_
     refine o_guardN (j := 8) (e := (!r6)) (want := false) (by decide) rfl hb7 ?_
     refine o_guardN (j := 8) (e := (!r6)) (want := false) (by decide) rfl hb7 ?_
     refine o_guardU (j := 11) (by decide) rfl ?_
     refine o_guardU (j := 11) (by decide) rfl ?_
     refine o_guardU (j := 11) (by decide) rfl ?_
     refine o_guardU (j := 11) (by decide) rfl ?_
     refine o_guardU (j := 11) (by decide) rfl ?_
     refine o_guardU (j := 11) (by decide) rfl ?_
     refine o_guardU (j := 11) (by decide) rfl ?_
     refine o_guardU (j := 11) (by decide) rfl ?_
     refine o_guardU (j := 11) (by decide) rfl ?_
     refine o_guardU (j := 11) (by decide) rfl ?_
     refine o_guardN (j := 8) (e := (!r6)) (want := false) (by decide) rfl hb7 ?_
     refine o_pickT (v := .b true) (e := (!r6)) (by decide) rfl hb7 rfl ?_
     refine run_nil ?_
     exact w_goto true (.k (.k (.k (.k (.k .nil))))) ⟨(hS.keep [] rfl).up (by omega), hM⟩
    ·replace hM := ifF hM hb7
     refine o_guardY (j := 8) (e := (!r6)) (want := false) rfl hb7 ?_
     refine o_move (v := .i v1) (by decide) rfl ?_
     refine o_guardY (j := 8) (e := (!r6)) (want := false) rfl hb7 ?_
     refine o_int (v := .b (decide (v1 > 0))) (by decide) rfl rfl rfl ?_
     refine o_guardY (j := 8) (e := (!r6)) (want := false) rfl hb7 ?_
     refine o_move (v := .b (decide (v1 > 0))) (by decide) rfl ?_
     rcases Bool.eq_false_or_eq_true (decide (v1 > 0)) with hb8 | hb8
     ·replace hM := ifT hM hb8
      refine o_guardY (j := 11) (e := (decide (v1 > 0))) (want := true) rfl hb8 ?_
      refine o_move (v := .sl .no 1 (a0.map cI)) (by decide) rfl ?_
      refine o_guardY (j := 11) (e := (decide (v1 > 0))) (want := true) rfl hb8 ?_
      refine o_move (v := .i v1) (by decide) rfl ?_
      refine o_guardY (j := 11) (e := (decide (v1 > 0))) (want := true) rfl hb8 ?_
      obtain ⟨x9, hx9, hM⟩ := bindE hM
      refine o_index (xs := a0) (f := cI) (z := v1) (u := x9) (by decide) rfl rfl ty_es22 hx9 ?_
      refine o_guardY (j := 11) (e := (decide (v1 > 0))) (want := true) rfl hb8 ?_
      refine o_loadE (v := .i x9) (by decide) rfl (part_one ty_agg3 ty_sc3 rfl) ?_
      refine o_guardY (j := 11) (e := (decide (v1 > 0))) (want := true) rfl hb8 ?_
      refine o_move (v := .sl .no 1 (a0.map cI)) (by decide) rfl ?_
      refine o_guardY (j := 11) (e := (decide (v1 > 0))) (want := true) rfl hb8 ?_
      refine o_move (v := .i v1) (by decide) rfl ?_
      refine o_guardY (j := 11) (e := (decide (v1 > 0))) (want := true) rfl hb8 ?_
      refine o_int (v := .i (w64 (v1 - 1))) (by decide) rfl rfl rfl ?_
      refine o_guardY (j := 11) (e := (decide (v1 > 0))) (want := true) rfl hb8 ?_
      obtain ⟨x10, hx10, hM⟩ := bindE hM
      refine o_index (xs := a0) (f := cI) (z := (w64 (v1 - 1))) (u := x10) (by decide) rfl rfl ty_es22 hx10 ?_
      refine o_guardY (j := 11) (e := (decide (v1 > 0))) (want := true) rfl hb8 ?_
      refine o_loadE (v := .i x10) (by decide) rfl (part_one ty_agg3 ty_sc3 rfl) ?_
      refine o_guardY (j := 11) (e := (decide (v1 > 0))) (want := true) rfl hb8 ?_
      refine o_int (v := .b (decide (x9 ≤ x10))) (by decide) rfl rfl rfl ?_
      refine o_guardY (j := 8) (e := (!r6)) (want := false) rfl hb7 ?_
      refine o_pickT (v := .b (decide (x9 ≤ x10))) (e := (decide (v1 > 0))) (by decide) rfl hb8 rfl ?_
      refine o_pickF (v := .b (decide (x9 ≤ x10))) (e := (!r6)) (by decide) rfl hb7 rfl ?_
      refine run_nil ?_
      exact w_goto (decide (x9 ≤ x10)) (.k (.k (.k (.k (.k .nil))))) ⟨(hS.keep [] rfl).up (by omega), hM⟩
     ·replace hM := ifF hM hb8
      refine o_guardN (j := 11) (e := (decide (v1 > 0))) (want := true) (by decide) rfl hb8 ?_
      refine o_guardN (j := 11) (e := (decide (v1 > 0))) (want := true) (by decide) rfl hb8 ?_
      refine o_guardN (j := 11) (e := (decide (v1 > 0))) (want := true) (by decide) rfl hb8 ?_
      refine o_guardN (j := 11) (e := (decide (v1 > 0))) (want := true) (by decide) rfl hb8 ?_
      refine o_guardN (j := 11) (e := (decide (v1 > 0))) (want := true) (by decide) rfl hb8 ?_
      refine o_guardN (j := 11) (e := (decide (v1 > 0))) (want := true) (by decide) rfl hb8 ?_
      refine o_guardN (j := 11) (e := (decide (v1 > 0))) (want := true) (by decide) rfl hb8 ?_
      refine o_guardN (j := 11) (e := (decide (v1 > 0))) (want := true) (by decide) rfl hb8 ?_
      refine o_guardN (j := 11) (e := (decide (v1 > 0))) (want := true) (by decide) rfl hb8 ?_
      refine o_guardN (j := 11) (e := (decide (v1 > 0))) (want := true) (by decide) rfl hb8 ?_
      refine o_guardY (j := 8) (e := (!r6)) (want := false) rfl hb7 ?_
      refine o_pickF (v := .b false) (e := (decide (v1 > 0))) (by decide) rfl hb8 rfl ?_
      refine o_pickF (v := .b false) (e := (!r6)) (by decide) rfl hb7 rfl ?_
      refine run_nil ?_
      exact w_goto false (.k (.k (.k (.k (.k .nil))))) ⟨(hS.keep [] rfl).up (by omega), hM⟩
  ·replace hM := ifF hM hb2
   refine w_condF (e := (decide (v1 < (a0.length : Int)))) rfl hb2 ?_
   refine r_exit ?_
   refine r_then_exit ?_
   refine w_round_exit ?_
   refine r_blk_exit ?_
   exact w_goto () .nil ⟨(hS.keep [] rfl).up (by omega), hM⟩
theorem W_ref01_Check {n : Nat} {a0 : Wheel} {r : Int} (hM : ref01_Check n a0 = some r) : PureSat Try.prog 39 [.agg [.i a0.Round, .sl .no 1 (a0.Notches.map cI), .sl .no 1 (a0.Coins.map cI)]] (.i r) := by
 refine pure_of_wp mixed Try.func39 rfl (by decide) Try.ntmps39 (by simp) ?pure fun H0 g hf => ?_
 case pure => exact .v _
 rw [frame0_of]
 change wpA _ _ _ _ (Fr.of [(0, .agg [.i a0.Round, .sl .no 1 (a0.Notches.map cI), .sl .no 1 (a0.Coins.map cI)])]) H0 g
 have hS := St.start hf
 refine r_seq ?_
 refine r_region (n := 2) rfl ?_
 refine o_box (v := .agg [.i a0.Round, .sl .no 1 (a0.Notches.map cI), .sl .no 1 (a0.Coins.map cI)]) (cs := [.i a0.Round, .sl .no 1 (a0.Notches.map cI), .sl .no 1 (a0.Coins.map cI)]) hS (by decide) rfl rfl (by omega) fun H hS => ?_
 refine o_assign (v := .i 0) (by decide) rfl ?_
 refine run_nil ?_
 refine w_iceE (L' := []) 0 1 hS rfl rfl rfl fun H hS => ?_
 refine w_next [(1, .ep [.i a0.Round, .sl .no 1 (a0.Notches.map cI), .sl .no 1 (a0.Coins.map cI)])] (.k .nil) ?_
 refine r_seq ?_
 refine w_join (J := Bool) (fun j => [(32, .b j)]) (fun j H' g' => St (· < g) H0 [] H' g' ∧ ref01_Check_j1 j = some r) ?_ ?_
 ·rintro v1 H g1 ⟨hS, hM⟩
  change wpA _ _ _ _ (Fr.of [(32, .b v1)]) _ _
  replace hS : St (· < g) H0 [] H g1 := hS
  replace hM : ref01_Check_j1 v1 = some r := hM
  rcases Bool.eq_false_or_eq_true v1 with hb2 | hb2
  ·replace hM := ifT hM hb2
   refine w_condT (e := v1) rfl hb2 ?_
   refine r_seq ?_
   refine r_region (n := 1) rfl ?_
   refine o_assign (v := .i 10) (by decide) rfl ?_
   refine run_nil ?_
   refine w_next [(2, .i 10)] (.k .nil) ?_
   refine r_ret ?_
   refine r_then_ret ?_
   refine w_end (x := .i 10) (f := fun r => .i r) (.inr rfl) ?_ (.refl _) (Option.some.inj hM) hS
   exact (res_one (res_tmp (x := .i 10) rfl))
  ·replace hM := ifF hM hb2
   refine w_condF (e := v1) rfl hb2 ?_
   refine r_skip ?_
   refine w_next [] .nil ?_
   refine r_seq ?_
   refine r_region (n := 1) rfl ?_
   refine o_assign (v := .i 0) (by decide) rfl ?_
   refine run_nil ?_
   refine w_next [(2, .i 0)] (.k .nil) ?_
   refine r_ret ?_
   refine w_end (x := .i 0) (f := fun r => .i r) (.inr rfl) ?_ (.refl _) (Option.some.inj hM) hS
   exact (res_one (res_tmp (x := .i 0) rfl))
 ·refine r_region (n := 30) rfl ?_
  refine o_fieldE (cs := [.i a0.Round, .sl .no 1 (a0.Notches.map cI), .sl .no 1 (a0.Coins.map cI)]) (by decide) ty_fo24_0 rfl ?_
  refine o_loadE (v := .i a0.Round) (by decide) rfl (part_one ty_agg3 ty_sc3 rfl) ?_
  obtain ⟨r3, hr3, hM⟩ := bindE hM
  refine o_call (bs := [.i a0.Round, .i 1, .i 200]) (by decide) rfl rfl ((W_ref01_Within hr3).le (.k (.k (.k .nil)))) ?_
  refine o_not (e := r3) (by decide) rfl ?_
  refine o_move (v := .b (!r3)) (by decide) rfl ?_
  rcases Bool.eq_false_or_eq_true (!r3) with hb4 | hb4
  ·replace hM := ifT hM hb4
   refine o_guardN (j := 4) (e := (!r3)) (want := false) (by decide) rfl hb4 ?_
   refine o_guardN (j := 4) (e := (!r3)) (want := false) (by decide) rfl hb4 ?_
   refine o_guardN (j := 4) (e := (!r3)) (want := false) (by decide) rfl hb4 ?_
   refine o_guardN (j := 4) (e := (!r3)) (want := false) (by decide) rfl hb4 ?_
   refine o_pickT (v := .b true) (e := (!r3)) (by decide) rfl hb4 rfl ?_
   refine o_move (v := .b true) (by decide) rfl ?_
   refine o_guardN (j := 10) (e := true) (want := false) (by decide) rfl rfl ?_
   refine o_guardN (j := 10) (e := true) (want := false) (by decide) rfl rfl ?_
   refine o_guardN (j := 10) (e := true) (want := false) (by decide) rfl rfl ?_
   refine o_guardN (j := 10) (e := true) (want := false) (by decide) rfl rfl ?_
   refine o_guardN (j := 10) (e := true) (want := false) (by decide) rfl rfl ?_
   refine o_guardN (j := 10) (e := true) (want := false) (by decide) rfl rfl ?_
   refine o_pickT (v := .b true) (e := true) (by decide) rfl rfl rfl ?_
   refine o_move (v := .b true) (by decide) rfl ?_
   refine o_guardN (j := 18) (e := true) (want := false) (by decide) rfl rfl ?_
   refine o_guardN (j := 18) (e := true) (want := false) (by decide) rfl rfl ?_
   refine o_guardN (j := 18) (e := true) (want := false) (by decide) rfl rfl ?_
   refine o_guardN (j := 18) (e := true) (want := false) (by decide) rfl rfl ?_
   refine o_pickT (v := .b true) (e := true) (by decide) rfl rfl rfl ?_
   refine o_move (v := .b true) (by decide) rfl ?_
   refine o_guardN (j := 24) (e := true) (want := false) (by decide) rfl rfl ?_
   refine o_guardN (j := 24) (e := true) (want := false) (by decide) rfl rfl ?_
   refine o_guardN (j := 24) (e := true) (want := false) (by decide) rfl rfl ?_
   refine o_guardN (j := 24) (e := true) (want := false) (by decide) rfl rfl ?_
   refine o_pickT (v := .b true) (e := true) (by decide) rfl rfl rfl ?_
   refine run_nil ?_
   exact w_goto true (.k .nil) ⟨(hS.keep [] rfl).up (by omega), hM⟩
  ·replace hM := ifF hM hb4
   refine o_guardY (j := 4) (e := (!r3)) (want := false) rfl hb4 ?_
   refine o_fieldE (cs := [.i a0.Round, .sl .no 1 (a0.Notches.map cI), .sl .no 1 (a0.Coins.map cI)]) (by decide) ty_fo24_1 rfl ?_
   refine o_guardY (j := 4) (e := (!r3)) (want := false) rfl hb4 ?_
   refine o_loadE (v := .sl .no 1 (a0.Notches.map cI)) (by decide) rfl (part_one ty_agg22 ty_sc22 rfl) ?_
   refine o_guardY (j := 4) (e := (!r3)) (want := false) rfl hb4 ?_
   refine o_len (n := a0.Notches.length) (by decide) rfl (List.length_map _) ty_isl22 ?_
   refine o_guardY (j := 4) (e := (!r3)) (want := false) rfl hb4 ?_
   refine o_int (v := .b (decide ((a0.Notches.length : Int) > 12))) (by decide) rfl rfl rfl ?_
   refine o_pickF (v := .b (decide ((a0.Notches.length : Int) > 12))) (e := (!r3)) (by decide) rfl hb4 rfl ?_
   refine o_move (v := .b (decide ((a0.Notches.length : Int) > 12))) (by decide) rfl ?_
   rcases Bool.eq_false_or_eq_true (decide ((a0.Notches.length : Int) > 12)) with hb5 | hb5
   ·replace hM := ifT hM hb5
    refine o_guardN (j := 10) (e := (decide ((a0.Notches.length : Int) > 12))) (want := false) (by decide) rfl hb5 ?_
    refine o_guardN (j := 10) (e := (decide ((a0.Notches.length : Int) > 12))) (want := false) (by decide) rfl hb5 ?_
    refine o_guardN (j := 10) (e := (decide ((a0.Notches.length : Int) > 12))) (want := false) (by decide) rfl hb5 ?_
    refine o_guardN (j := 10) (e := (decide ((a0.Notches.length : Int) > 12))) (want := false) (by decide) rfl hb5 ?_
    refine o_guardN (j := 10) (e := (decide ((a0.Notches.length : Int) > 12))) (want := false) (by decide) rfl hb5 ?_
    refine o_guardN (j := 10) (e := (decide ((a0.Notches.length : Int) > 12))) (want := false) (by decide) rfl hb5 ?_
    refine o_pickT (v := .b true) (e := (decide ((a0.Notches.length : Int) > 12))) (by decide) rfl hb5 rfl ?_
    refine o_move (v := .b true) (by decide) rfl ?_
    refine o_guardN (j := 18) (e := true) (want := false) (by decide) rfl rfl ?_
    refine o_guardN (j := 18) (e := true) (want := false) (by decide) rfl rfl ?_
    refine o_guardN (j := 18) (e := true) (want := false) (by decide) rfl rfl ?_
    refine o_guardN (j := 18) (e := true) (want := false) (by decide) rfl rfl ?_
    refine o_pickT (v := .b true) (e := true) (by decide) rfl rfl rfl ?_
    refine o_move (v := .b true) (by decide) rfl ?_
    refine o_guardN (j := 24) (e := true) (want := false) (by decide) rfl rfl ?_
    refine o_guardN (j := 24) (e := true) (want := false) (by decide) rfl rfl ?_
    refine o_guardN (j := 24) (e := true) (want := false) (by decide) rfl rfl ?_
    refine o_guardN (j := 24) (e := true) (want := false) (by decide) rfl rfl ?_
    refine o_pickT (v := .b true) (e := true) (by decide) rfl rfl rfl ?_
    refine run_nil ?_
    exact w_goto true (.k .nil) ⟨(hS.keep [] rfl).up (by omega), hM⟩
   ·replace hM := ifF hM hb5
    refine o_guardY (j := 10) (e := (decide ((a0.Notches.length : Int) > 12))) (want := false) rfl hb5 ?_
    refine o_fieldE (cs := [.i a0.Round, .sl .no 1 (a0.Notches.map cI), .sl .no 1 (a0.Coins.map cI)]) (by decide) ty_fo24_1 rfl ?_
    refine o_guardY (j := 10) (e := (decide ((a0.Notches.length : Int) > 12))) (want := false) rfl hb5 ?_
    refine o_loadE (v := .sl .no 1 (a0.Notches.map cI)) (by decide) rfl (part_one ty_agg22 ty_sc22 rfl) ?_
    refine o_guardY (j := 10) (e := (decide ((a0.Notches.length : Int) > 12))) (want := false) rfl hb5 ?_
    refine o_fieldE (cs := [.i a0.Round, .sl .no 1 (a0.Notches.map cI), .sl .no 1 (a0.Coins.map cI)]) (by decide) ty_fo24_0 rfl ?_
    refine o_guardY (j := 10) (e := (decide ((a0.Notches.length : Int) > 12))) (want := false) rfl hb5 ?_
    refine o_loadE (v := .i a0.Round) (by decide) rfl (part_one ty_agg3 ty_sc3 rfl) ?_
    refine o_guardY (j := 10) (e := (decide ((a0.Notches.length : Int) > 12))) (want := false) rfl hb5 ?_
    obtain ⟨r6, hr6, hM⟩ := bindE hM
    refine o_call (bs := [.sl .no 1 (a0.Notches.map cI), .i 1, .i a0.Round]) (by decide) rfl rfl ((W_ref01_Rising hr6).le (.k (.k (.k .nil)))) ?_
    refine o_guardY (j := 10) (e := (decide ((a0.Notches.length : Int) > 12))) (want := false) rfl hb5 ?_
    refine o_not (e := r6) (by decide) rfl ?_
    refine o_pickF (v := .b (!r6)) (e := (decide ((a0.Notches.length : Int) > 12))) (by decide) rfl hb5 rfl ?_
    refine o_move (v := .b (!r6)) (by decide) rfl ?_
    rcases Bool.eq_false_or_eq_true (!r6) with hb7 | hb7
    ·replace hM := ifT hM hb7
     refine o_guardN (j := 18) (e := (!r6)) (want := false) (by decide) rfl hb7 ?_
     refine o_guardN (j := 18) (e := (!r6)) (want := false) (by decide) rfl hb7 ?_
     refine o_guardN (j := 18) (e := (!r6)) (want := false) (by decide) rfl hb7 ?_
     refine o_guardN (j := 18) (e := (!r6)) (want := false) (by decide) rfl hb7 ?_
     refine o_pickT (v := .b true) (e := (!r6)) (by decide) rfl hb7 rfl ?_
     refine o_move (v := .b true) (by decide) rfl ?_
     refine o_guardN (j := 24) (e := true) (want := false) (by decide) rfl rfl ?_
     refine o_guardN (j := 24) (e := true) (want := false) (by decide) rfl rfl ?_
     refine o_guardN (j := 24) (e := true) (want := false) (by decide) rfl rfl ?_
     refine o_guardN (j := 24) (e := true) (want := false) (by decide) rfl rfl ?_
     refine o_pickT (v := .b true) (e := true) (by decide) rfl rfl rfl ?_
     refine run_nil ?_
     exact w_goto true (.k .nil) ⟨(hS.keep [] rfl).up (by omega), hM⟩
    ·replace hM := ifF hM hb7
     refine o_guardY (j := 18) (e := (!r6)) (want := false) rfl hb7 ?_
     refine o_fieldE (cs := [.i a0.Round, .sl .no 1 (a0.Notches.map cI), .sl .no 1 (a0.Coins.map cI)]) (by decide) ty_fo24_2 rfl ?_
     refine o_guardY (j := 18) (e := (!r6)) (want := false) rfl hb7 ?_
     refine o_loadE (v := .sl .no 1 (a0.Coins.map cI)) (by decide) rfl (part_one ty_agg22 ty_sc22 rfl) ?_
     refine o_guardY (j := 18) (e := (!r6)) (want := false) rfl hb7 ?_
     refine o_len (n := a0.Coins.length) (by decide) rfl (List.length_map _) ty_isl22 ?_
     refine o_guardY (j := 18) (e := (!r6)) (want := false) rfl hb7 ?_
     refine o_int (v := .b (decide ((a0.Coins.length : Int) > 4))) (by decide) rfl rfl rfl ?_
     refine o_pickF (v := .b (decide ((a0.Coins.length : Int) > 4))) (e := (!r6)) (by decide) rfl hb7 rfl ?_
     refine o_move (v := .b (decide ((a0.Coins.length : Int) > 4))) (by decide) rfl ?_
     rcases Bool.eq_false_or_eq_true (decide ((a0.Coins.length : Int) > 4)) with hb8 | hb8
     ·replace hM := ifT hM hb8
      refine o_guardN (j := 24) (e := (decide ((a0.Coins.length : Int) > 4))) (want := false) (by decide) rfl hb8 ?_
      refine o_guardN (j := 24) (e := (decide ((a0.Coins.length : Int) > 4))) (want := false) (by decide) rfl hb8 ?_
      refine o_guardN (j := 24) (e := (decide ((a0.Coins.length : Int) > 4))) (want := false) (by decide) rfl hb8 ?_
      refine o_guardN (j := 24) (e := (decide ((a0.Coins.length : Int) > 4))) (want := false) (by decide) rfl hb8 ?_
      refine o_pickT (v := .b true) (e := (decide ((a0.Coins.length : Int) > 4))) (by decide) rfl hb8 rfl ?_
      refine run_nil ?_
      exact w_goto true (.k .nil) ⟨(hS.keep [] rfl).up (by omega), hM⟩
     ·replace hM := ifF hM hb8
      refine o_guardY (j := 24) (e := (decide ((a0.Coins.length : Int) > 4))) (want := false) rfl hb8 ?_
      refine o_fieldE (cs := [.i a0.Round, .sl .no 1 (a0.Notches.map cI), .sl .no 1 (a0.Coins.map cI)]) (by decide) ty_fo24_2 rfl ?_
      refine o_guardY (j := 24) (e := (decide ((a0.Coins.length : Int) > 4))) (want := false) rfl hb8 ?_
      refine o_loadE (v := .sl .no 1 (a0.Coins.map cI)) (by decide) rfl (part_one ty_agg22 ty_sc22 rfl) ?_
      refine o_guardY (j := 24) (e := (decide ((a0.Coins.length : Int) > 4))) (want := false) rfl hb8 ?_
      obtain ⟨r9, hr9, hM⟩ := bindE hM
      refine o_call (bs := [.sl .no 1 (a0.Coins.map cI), .i 1, .i 100]) (by decide) rfl rfl ((W_ref01_Rising hr9).le (.k (.k (.k .nil)))) ?_
      refine o_guardY (j := 24) (e := (decide ((a0.Coins.length : Int) > 4))) (want := false) rfl hb8 ?_
      refine o_not (e := r9) (by decide) rfl ?_
      refine o_pickF (v := .b (!r9)) (e := (decide ((a0.Coins.length : Int) > 4))) (by decide) rfl hb8 rfl ?_
      refine run_nil ?_
      exact w_goto (!r9) (.k .nil) ⟨(hS.keep [] rfl).up (by omega), hM⟩
theorem W_law01_isWheel {n : Nat} {a0 : Wheel} {r : Bool} (hM : law01_isWheel n a0 = some r) : PureSat Try.prog 22 [.agg [.i a0.Round, .sl .no 1 (a0.Notches.map cI), .sl .no 1 (a0.Coins.map cI)]] (.b r) := by
 refine pure_of_wp mixed Try.func22 rfl (by decide) Try.ntmps22 (by simp) ?pure fun H0 g hf => ?_
 case pure => exact .v _
 rw [frame0_of]
 change wpA _ _ _ _ (Fr.of [(0, .agg [.i a0.Round, .sl .no 1 (a0.Notches.map cI), .sl .no 1 (a0.Coins.map cI)])]) H0 g
 have hS := St.start hf
 refine r_seq ?_
 refine r_region (n := 2) rfl ?_
 refine o_box (v := .agg [.i a0.Round, .sl .no 1 (a0.Notches.map cI), .sl .no 1 (a0.Coins.map cI)]) (cs := [.i a0.Round, .sl .no 1 (a0.Notches.map cI), .sl .no 1 (a0.Coins.map cI)]) hS (by decide) rfl rfl (by omega) fun H hS => ?_
 refine o_assign (v := .b false) (by decide) rfl ?_
 refine run_nil ?_
 refine w_iceE (L' := []) 0 1 hS rfl rfl rfl fun H hS => ?_
 refine w_next [(1, .ep [.i a0.Round, .sl .no 1 (a0.Notches.map cI), .sl .no 1 (a0.Coins.map cI)])] (.k .nil) ?_
 refine w_join (J := Bool) (fun j => [(2, .b j)]) (fun j H' g' => St (· < g) H0 [] H' g' ∧ law01_isWheel_j1 j = some r) ?_ ?_
 ·rintro v1 H g1 ⟨hS, hM⟩
  change wpA _ _ _ _ (Fr.of [(2, .b v1)]) _ _
  replace hS : St (· < g) H0 [] H g1 := hS
  replace hM : law01_isWheel_j1 v1 = some r := hM
  refine r_ret ?_
  refine w_end (x := .b v1) (f := fun r => .b r) (.inr rfl) ?_ (.refl _) (Option.some.inj hM) hS
  exact (res_one (res_tmp (x := .b v1) rfl))
 ·refine r_region (n := 9) rfl ?_
  refine o_loadE (v := .agg [.i a0.Round, .sl .no 1 (a0.Notches.map cI), .sl .no 1 (a0.Coins.map cI)]) (by decide) rfl (part_agg ty_agg24 (Nat.le_of_ble_eq_true rfl) rfl) ?_
  obtain ⟨r2, hr2, hM⟩ := bindE hM
  refine o_call (bs := [.agg [.i a0.Round, .sl .no 1 (a0.Notches.map cI), .sl .no 1 (a0.Coins.map cI)]]) (by decide) rfl rfl ((W_law01_far hr2).le (.k .nil)) ?_
  refine o_not (e := r2) (by decide) rfl ?_
  refine o_move (v := .b (!r2)) (by decide) rfl ?_
  rcases Bool.eq_false_or_eq_true (!r2) with hb3 | hb3
  ·replace hM := ifT hM hb3
   refine o_guardY (j := 3) (e := (!r2)) (want := true) rfl hb3 ?_
   refine o_loadE (v := .agg [.i a0.Round, .sl .no 1 (a0.Notches.map cI), .sl .no 1 (a0.Coins.map cI)]) (by decide) rfl (part_agg ty_agg24 (Nat.le_of_ble_eq_true rfl) rfl) ?_
   refine o_guardY (j := 3) (e := (!r2)) (want := true) rfl hb3 ?_
   obtain ⟨r4, hr4, hM⟩ := bindE hM
   refine o_call (bs := [.agg [.i a0.Round, .sl .no 1 (a0.Notches.map cI), .sl .no 1 (a0.Coins.map cI)]]) (by decide) rfl rfl ((W_ref01_Check hr4).le (.k .nil)) ?_
   refine o_guardY (j := 3) (e := (!r2)) (want := true) rfl hb3 ?_
   refine o_int (v := .b (r4 == 0)) (by decide) rfl rfl rfl ?_
   refine o_pickT (v := .b (r4 == 0)) (e := (!r2)) (by decide) rfl hb3 rfl ?_
   refine o_assign (v := .b (r4 == 0)) (by decide) rfl ?_
   refine run_nil ?_
   exact w_goto (r4 == 0) (.k .nil) ⟨(hS.keep [] rfl).up (by omega), hM⟩
  ·replace hM := ifF hM hb3
   refine o_guardN (j := 3) (e := (!r2)) (want := true) (by decide) rfl hb3 ?_
   refine o_guardN (j := 3) (e := (!r2)) (want := true) (by decide) rfl hb3 ?_
   refine o_guardN (j := 3) (e := (!r2)) (want := true) (by decide) rfl hb3 ?_
   refine o_pickF (v := .b false) (e := (!r2)) (by decide) rfl hb3 rfl ?_
   refine o_assign (v := .b false) (by decide) rfl ?_
   refine run_nil ?_
   exact w_goto false (.k .nil) ⟨(hS.keep [] rfl).up (by omega), hM⟩
theorem W_law01_joined {a0 : List Int} {a1 : List Int} {r : (List Int)} (hM : law01_joined a0 a1 = some r) : PureSat Try.prog 26 [.sl .no 1 (a0.map cI), .sl .no 1 (a1.map cI)] (.sl .no 1 (r.map cI)) := by
 refine pure_of_wp mixed Try.func26 rfl (by decide) Try.ntmps26 (by simp) ?pure fun H0 g hf => ?_
 case pure => exact .sl _ _ (pures_map (fun x => (pl_cons (.v _) pl_nil)))
 rw [frame0_of]
 change wpA _ _ _ _ (Fr.of [(0, .sl .no 1 (a0.map cI)), (1, .sl .no 1 (a1.map cI))]) H0 g
 have hS := St.start hf
 refine r_seq ?_
 refine r_region (n := 1) rfl ?_
 refine o_assign (v := .sl .nil 0 []) (by decide) rfl ?_
 refine run_nil ?_
 refine w_next [(0, .sl .no 1 (a0.map cI)), (1, .sl .no 1 (a1.map cI))] (.k (.k .nil)) ?_
 refine r_seq ?_
 refine r_region (n := 6) rfl ?_
 refine o_buildSlice (es := []) hS (by decide) ty_es22 ty_el22 rfl ty_ef22 rfl (by decide) (by omega) fun H hS => ?_
 refine o_move (v := .sl .no 1 (a0.map cI)) (by decide) rfl ?_
 obtain ⟨l1, hl1, hM⟩ := bindE hM
 refine o_append (xs := ([] : List Int)) (ys := a0) (zs := l1) (f := cI) (L' := [(g + 1 + 0, .row 3 l1.length)]) 0 hS (by decide) rfl rfl rfl rfl .no ty_es22 ty_el22 ty_ef22 hl1 rfl fun H hS => ?_
 refine o_move (v := .sl .no 1 (a1.map cI)) (by decide) rfl ?_
 obtain ⟨l2, hl2, hM⟩ := bindE hM
 refine o_append (xs := l1) (ys := a1) (zs := l2) (f := cI) (L' := [(g + 1 + 0, .row 3 l2.length)]) 0 hS (by decide) rfl rfl rfl rfl .no ty_es22 ty_el22 ty_ef22 hl2 rfl fun H hS => ?_
 refine o_assign (v := .sl (.id (g + 1 + 0)) 1 (l2.map cI)) (by decide) rfl ?_
 refine run_nil ?_
 refine w_next [(4, .sl (.id (g + 1 + 0)) 1 (l2.map cI))] (.k .nil) ?_
 refine r_ret ?_
 refine w_end (x := .sl (.id (g + 1 + 0)) 1 (l2.map cI)) (f := fun r => .sl .no 1 (r.map cI)) (.inr rfl) ?_ (.sl _ _ _) (Option.some.inj hM) hS
 exact (res_one (res_tmp (x := .sl (.id (g + 1 + 0)) 1 (l2.map cI)) rfl))
theorem W_ref01_AreKinds {n : Nat} {a0 : Wheel} {a1 : List Int} {a2 : Int} {r : Bool} (hM : ref01_AreKinds n a0 a1 a2 = some r) : PureSat Try.prog 36 [.agg [.i a0.Round, .sl .no 1 (a0.Notches.map cI), .sl .no 1 (a0.Coins.map cI)], .sl .no 1 (a1.map cI), .i a2] (.b r) := by
 refine pure_of_wp mixed Try.func36 rfl (by decide) Try.ntmps36 (by simp) ?pure fun H0 g hf => ?_
 case pure => exact .v _
 rw [frame0_of]
 change wpA _ _ _ _ (Fr.of [(0, .agg [.i a0.Round, .sl .no 1 (a0.Notches.map cI), .sl .no 1 (a0.Coins.map cI)]), (1, .sl .no 1 (a1.map cI)), (2, .i a2)]) H0 g
 have hS := St.start hf
 refine r_seq ?_
 refine r_region (n := 2) rfl ?_
 refine o_box (v := .agg [.i a0.Round, .sl .no 1 (a0.Notches.map cI), .sl .no 1 (a0.Coins.map cI)]) (cs := [.i a0.Round, .sl .no 1 (a0.Notches.map cI), .sl .no 1 (a0.Coins.map cI)]) hS (by decide) rfl rfl (by omega) fun H hS => ?_
 refine o_assign (v := .b false) (by decide) rfl ?_
 refine run_nil ?_
 refine w_iceE (L' := []) 0 3 hS rfl rfl rfl fun H hS => ?_
 refine w_next [(1, .sl .no 1 (a1.map cI)), (2, .i a2), (3, .ep [.i a0.Round, .sl .no 1 (a0.Notches.map cI), .sl .no 1 (a0.Coins.map cI)])] (.k (.k (.k .nil))) ?_
 refine w_join (J := Unit) (fun j => [(1, .sl .no 1 (a1.map cI))]) (fun j H' g' => St (· < g) H0 [] H' g' ∧ ref01_AreKinds_j1 a1 = some r) ?_ ?_
 ·rintro _ H g1 ⟨hS, hM⟩
  change wpA _ _ _ _ (Fr.of [(1, .sl .no 1 (a1.map cI))]) _ _
  replace hS : St (· < g) H0 [] H g1 := hS
  replace hM : ref01_AreKinds_j1 a1 = some r := hM
  refine r_seq ?_
  refine r_region (n := 4) rfl ?_
  refine o_move (v := .sl .no 1 (a1.map cI)) (by decide) rfl ?_
  refine o_len (n := a1.length) (by decide) rfl (List.length_map _) ty_isl22 ?_
  refine o_int (v := .b (decide ((a1.length : Int) ≤ 20))) (by decide) rfl rfl rfl ?_
  refine o_assign (v := .b (decide ((a1.length : Int) ≤ 20))) (by decide) rfl ?_
  refine run_nil ?_
  refine w_next [(6, .b (decide ((a1.length : Int) ≤ 20)))] (.k .nil) ?_
  refine r_ret ?_
  refine w_end (x := .b (decide ((a1.length : Int) ≤ 20))) (f := fun r => .b r) (.inr rfl) ?_ (.refl _) (Option.some.inj hM) hS
  exact (res_one (res_tmp (x := .b (decide ((a1.length : Int) ≤ 20))) rfl))
 ·refine r_seq ?_
  refine r_region (n := 1) rfl ?_
  refine o_assign (v := .i 0) (by decide) rfl ?_
  refine run_nil ?_
  refine w_next [(1, .sl .no 1 (a1.map cI)), (2, .i a2), (3, .ep [.i a0.Round, .sl .no 1 (a0.Notches.map cI), .sl .no 1 (a0.Coins.map cI)]), (7, .i 0)] (.k (.k (.k (.k .nil)))) ?_
  refine r_block ?_
  refine w_loop (V := Int) (fun v => [(1, .sl .no 1 (a1.map cI)), (2, .i a2), (3, .ep [.i a0.Round, .sl .no 1 (a0.Notches.map cI), .sl .no 1 (a0.Coins.map cI)]), (7, .i v)]) (fun v m2 H' g' => St (· < g) H0 [] H' g' ∧ ref01_AreKinds_l1 a0 a1 a2 m2 v = some r) (n := n) 0 (.k (.k (.k (.k .nil)))) ⟨(hS.keep [] rfl).up (by omega), hM⟩ ?_
  rintro v1 m2 H g2 ⟨hS, hM⟩
  obtain _ | m2 := m2
  ·exact nomatch (show none = some _ from hM)
  change wpA _ _ _ _ (Fr.of [(1, .sl .no 1 (a1.map cI)), (2, .i a2), (3, .ep [.i a0.Round, .sl .no 1 (a0.Notches.map cI), .sl .no 1 (a0.Coins.map cI)]), (7, .i v1)]) _ _
  replace hS : St (· < g) H0 [] H g2 := hS
  replace hM : ref01_AreKinds_l1_b a0 a1 a2 (ref01_AreKinds_l1 a0 a1 a2 m2) v1 = some r := hM
  refine r_seq ?_
  refine r_seq ?_
  refine r_region (n := 4) rfl ?_
  refine o_move (v := .i v1) (by decide) rfl ?_
  refine o_move (v := .sl .no 1 (a1.map cI)) (by decide) rfl ?_
  refine o_len (n := a1.length) (by decide) rfl (List.length_map _) ty_isl22 ?_
  refine o_int (v := .b (decide (v1 < (a1.length : Int)))) (by decide) rfl rfl rfl ?_
  refine run_nil ?_
  refine w_next [(1, .sl .no 1 (a1.map cI)), (2, .i a2), (3, .ep [.i a0.Round, .sl .no 1 (a0.Notches.map cI), .sl .no 1 (a0.Coins.map cI)]), (7, .i v1), (11, .b (decide (v1 < (a1.length : Int))))] (.k (.k (.k (.k (.k .nil))))) ?_
  rcases Bool.eq_false_or_eq_true (decide (v1 < (a1.length : Int))) with hb2 | hb2
  ·replace hM := ifT hM hb2
   refine w_condT (e := (decide (v1 < (a1.length : Int)))) rfl hb2 ?_
   refine r_skip ?_
   refine w_next [(1, .sl .no 1 (a1.map cI)), (2, .i a2), (3, .ep [.i a0.Round, .sl .no 1 (a0.Notches.map cI), .sl .no 1 (a0.Coins.map cI)]), (7, .i v1)] (.k (.k (.k (.k .nil)))) ?_
   refine r_seq ?_
   refine r_block ?_
   refine r_seq ?_
   have hS0 := hS
   refine r_draw (n := 11) rfl (by kernel_rfl) ?_
   refine o_move (v := .sl .no 1 (a1.map cI)) (by decide) rfl ?_
   refine o_move (v := .i v1) (by decide) rfl ?_
   obtain ⟨x3, hx3, hM⟩ := bindE hM
   refine o_index (xs := a1) (f := cI) (z := v1) (u := x3) (by decide) rfl rfl ty_es22 hx3 ?_
   refine o_loadE (v := .i x3) (by decide) rfl (part_one ty_agg3 ty_sc3 rfl) ?_
   refine o_move (v := .i a2) (by decide) rfl ?_
   refine o_fieldE (cs := [.i a0.Round, .sl .no 1 (a0.Notches.map cI), .sl .no 1 (a0.Coins.map cI)]) (by decide) ty_fo24_2 rfl ?_
   refine o_loadE (v := .sl .no 1 (a0.Coins.map cI)) (by decide) rfl (part_one ty_agg22 ty_sc22 rfl) ?_
   refine o_len (n := a0.Coins.length) (by decide) rfl (List.length_map _) ty_isl22 ?_
   refine o_int (v := .i (w64 ((a0.Coins.length : Int) - 1))) (by decide) rfl rfl rfl ?_
   obtain ⟨r4, hr4, hM⟩ := bindE hM
   refine o_call (bs := [.i x3, .i a2, .i (w64 ((a0.Coins.length : Int) - 1))]) (by decide) rfl rfl ((W_ref01_Within hr4).le (.k (.k (.k .nil)))) ?_
   refine o_not (e := r4) (by decide) rfl ?_
   refine run_nil ?_
   refine w_next [(1, .sl .no 1 (a1.map cI)), (2, .i a2), (3, .ep [.i a0.Round, .sl .no 1 (a0.Notches.map cI), .sl .no 1 (a0.Coins.map cI)]), (7, .i v1), (24, .b (!r4))] (.k (.k (.k (.k (.k .nil))))) ?_
   rcases Bool.eq_false_or_eq_true (!r4) with hb5 | hb5
   ·replace hM := ifT hM hb5
    refine w_condT (e := (!r4)) rfl hb5 ?_
    refine r_seq ?_
    refine r_region (n := 1) rfl ?_
    refine o_assign (v := .b false) (by decide) rfl ?_
    refine run_nil ?_
    refine w_next [(6, .b false)] (.k .nil) ?_
    refine r_ret ?_
    refine r_blk_ret ?_
    refine r_then_ret ?_
    refine w_round_ret ?_
    refine r_blk_ret ?_
    refine w_goto_ret ?_
    refine w_end (x := .b false) (f := fun r => .b r) (.inr rfl) ?_ (.refl _) (Option.some.inj hM) hS
    exact (res_one (res_tmp (x := .b false) rfl))
   ·replace hM := ifF hM hb5
    refine w_condF (e := (!r4)) rfl hb5 ?_
    refine r_skip ?_
    refine r_blk_normal ?_
    refine w_next [(1, .sl .no 1 (a1.map cI)), (2, .i a2), (3, .ep [.i a0.Round, .sl .no 1 (a0.Notches.map cI), .sl .no 1 (a0.Coins.map cI)]), (7, .i v1)] (.k (.k (.k (.k .nil)))) ?_
    refine r_region (n := 3) rfl ?_
    refine o_move (v := .i v1) (by decide) rfl ?_
    refine o_int (v := .i (w64 (v1 + 1))) (by decide) rfl rfl rfl ?_
    refine o_assign (v := .i (w64 (v1 + 1))) (by decide) rfl ?_
    refine run_nil ?_
    exact w_round (w64 (v1 + 1)) (Nat.lt_succ_self _) (.k (.k (.k (.k .nil)))) ⟨(hS.keep [] rfl).up (by omega), hM⟩
  ·replace hM := ifF hM hb2
   refine w_condF (e := (decide (v1 < (a1.length : Int)))) rfl hb2 ?_
   refine r_exit ?_
   refine r_then_exit ?_
   refine w_round_exit ?_
   refine r_blk_exit ?_
   exact w_goto () (.k .nil) ⟨(hS.keep [] rfl).up (by omega), hM⟩
theorem W_coins_Plays_c1 {n : Nat} {a0 : Wheel_} {a1 : Int} {a2 : List Int} {r : Bool} (hM : coins_Plays_c1 n a0 a1 a2 = some r) : PureSat Try.prog 80 [.agg [.i a0.Wheel.Round, .sl .no 1 (a0.Wheel.Notches.map cI), .sl .no 1 (a0.Wheel.Coins.map cI)], .ep [.i a1], .ep [.sl .no 1 (a2.map cI)]] (.b r) := by
 refine pure_of_wp mixed Try.func80 rfl (by decide) Try.ntmps80 (by simp) ?pure fun H0 g hf => ?_
 case pure => exact .v _
 rw [frame0_of]
 change wpA _ _ _ _ (Fr.of [(0, .agg [.i a0.Wheel.Round, .sl .no 1 (a0.Wheel.Notches.map cI), .sl .no 1 (a0.Wheel.Coins.map cI)]), (1, .ep [.i a1]), (2, .ep [.sl .no 1 (a2.map cI)])]) H0 g
 have hS := St.start hf
 refine r_seq ?_
 refine r_region (n := 2) rfl ?_
 refine o_box (v := .agg [.i a0.Wheel.Round, .sl .no 1 (a0.Wheel.Notches.map cI), .sl .no 1 (a0.Wheel.Coins.map cI)]) (cs := [.i a0.Wheel.Round, .sl .no 1 (a0.Wheel.Notches.map cI), .sl .no 1 (a0.Wheel.Coins.map cI)]) hS (by decide) rfl rfl (by omega) fun H hS => ?_
 refine o_assign (v := .b false) (by decide) rfl ?_
 refine run_nil ?_
 refine w_iceE (L' := []) 0 3 hS rfl rfl rfl fun H hS => ?_
 refine w_next [(1, .ep [.i a1]), (2, .ep [.sl .no 1 (a2.map cI)]), (3, .ep [.i a0.Wheel.Round, .sl .no 1 (a0.Wheel.Notches.map cI), .sl .no 1 (a0.Wheel.Coins.map cI)])] (.k (.k (.k .nil))) ?_
 refine w_join (J := Bool) (fun j => [(4, .b j)]) (fun j H' g' => St (· < g) H0 [] H' g' ∧ coins_Plays_c1_j1 j = some r) ?_ ?_
 ·rintro v1 H g1 ⟨hS, hM⟩
  change wpA _ _ _ _ (Fr.of [(4, .b v1)]) _ _
  replace hS : St (· < g) H0 [] H g1 := hS
  replace hM : coins_Plays_c1_j1 v1 = some r := hM
  refine r_ret ?_
  refine w_end (x := .b v1) (f := fun r => .b r) (.inr rfl) ?_ (.refl _) (Option.some.inj hM) hS
  exact (res_one (res_tmp (x := .b v1) rfl))
 ·refine r_region (n := 10) rfl ?_
  refine o_loadE (v := .agg [.i a0.Wheel.Round, .sl .no 1 (a0.Wheel.Notches.map cI), .sl .no 1 (a0.Wheel.Coins.map cI)]) (by decide) rfl (part_agg ty_agg71 (Nat.le_of_ble_eq_true rfl) rfl) ?_
  refine o_loadE (v := .i a1) (by decide) rfl (part_one ty_agg3 ty_sc3 rfl) ?_
  obtain ⟨r2, hr2, hM⟩ := bindE hM
  refine o_call (bs := [.agg [.i a0.Wheel.Round, .sl .no 1 (a0.Wheel.Notches.map cI), .sl .no 1 (a0.Wheel.Coins.map cI)], .i a1]) (by decide) rfl rfl ((W_coins_wheel_isPlace hr2).le (.k (.k .nil))) ?_
  refine o_move (v := .b r2) (by decide) rfl ?_
  rcases Bool.eq_false_or_eq_true r2 with hb3 | hb3
  ·replace hM := ifT hM hb3
   refine o_guardY (j := 3) (e := r2) (want := true) rfl hb3 ?_
   refine o_loadE (v := .sl .no 1 (a2.map cI)) (by decide) rfl (part_one ty_agg22 ty_sc22 rfl) ?_
   refine o_guardY (j := 3) (e := r2) (want := true) rfl hb3 ?_
   refine o_loadE (v := .agg [.i a0.Wheel.Round, .sl .no 1 (a0.Wheel.Notches.map cI), .sl .no 1 (a0.Wheel.Coins.map cI)]) (by decide) rfl (part_agg ty_agg71 (Nat.le_of_ble_eq_true rfl) rfl) ?_
   refine o_guardY (j := 3) (e := r2) (want := true) rfl hb3 ?_
   refine o_makeFunc (first := [.agg [.i a0.Wheel.Round, .sl .no 1 (a0.Wheel.Notches.map cI), .sl .no 1 (a0.Wheel.Coins.map cI)]]) (cap := []) (by decide) rfl rfl ?_
   refine o_guardY (j := 3) (e := r2) (want := true) rfl hb3 ?_
   obtain ⟨r4, hr4, hM⟩ := bindE hM
   refine o_call (bs := [.sl .no 1 (a2.map cI), .fn (.func 81) [.agg [.i a0.Wheel.Round, .sl .no 1 (a0.Wheel.Notches.map cI), .sl .no 1 (a0.Wheel.Coins.map cI)]] []]) (by decide) rfl rfl (pure_of_hsat ((W_coins_all_int (Lo := (fun (_ : Unit) => []))  (fun _ _ => kl_nil) (fun _ => List.nodup_nil) (fun _ => inb_nil) (aF := (fun (x0 : Int) (_ : Unit) => (coins_wheel_isKind a0 x0).map fun y => (y, ()))) (fun _ H hH => (.fn _ _ _ (ai_cons (show Go.AM.Pure _ from .agg _ (pl_cons (.v _) (pl_cons (.sl _ _ (pures_map (fun x => (pl_cons (.v _) pl_nil)))) (pl_cons (.sl _ _ (pures_map (fun x => (pl_cons (.v _) pl_nil)))) pl_nil)))).inH ai_nil) ai_nil)) rfl (fun h => csat_val (W_coins_wheel_isKind (pure_some h))) hr4).le (.k (.k .nil)))) ?_
   refine o_pickT (v := .b r4.1) (e := r2) (by decide) rfl hb3 rfl ?_
   refine o_assign (v := .b r4.1) (by decide) rfl ?_
   refine run_nil ?_
   exact w_goto r4.1 (.k .nil) ⟨(hS.keep [] rfl).up (by omega), hM⟩
  ·replace hM := ifF hM hb3
   refine o_guardN (j := 3) (e := r2) (want := true) (by decide) rfl hb3 ?_
   refine o_guardN (j := 3) (e := r2) (want := true) (by decide) rfl hb3 ?_
   refine o_guardN (j := 3) (e := r2) (want := true) (by decide) rfl hb3 ?_
   refine o_guardN (j := 3) (e := r2) (want := true) (by decide) rfl hb3 ?_
   refine o_pickF (v := .b false) (e := r2) (by decide) rfl hb3 rfl ?_
   refine o_assign (v := .b false) (by decide) rfl ?_
   refine run_nil ?_
   exact w_goto false (.k .nil) ⟨(hS.keep [] rfl).up (by omega), hM⟩
theorem W_coins_Plays {n : Nat} {a0 : Wheel} {a1 : Int} {a2 : List Int} {r : Int × Int} (hM : coins_Plays n a0 a1 a2 = some r) : PureSat Try.prog 42 [.agg [.i a0.Round, .sl .no 1 (a0.Notches.map cI), .sl .no 1 (a0.Coins.map cI)], .i a1, .sl .no 1 (a2.map cI)] (.tup [.i r.1, .i r.2]) := by
 refine pure_of_wp mixed Try.func42 rfl (by decide) Try.ntmps42 (by simp) ?pure fun H0 g hf => ?_
 case pure => exact .tup _ (pl_cons (.v _) (pl_cons (.v _) pl_nil))
 rw [frame0_of]
 change wpA _ _ _ _ (Fr.of [(0, .agg [.i a0.Round, .sl .no 1 (a0.Notches.map cI), .sl .no 1 (a0.Coins.map cI)]), (1, .i a1), (2, .sl .no 1 (a2.map cI))]) H0 g
 have hS := St.start hf
 refine r_seq ?_
 refine r_region (n := 5) rfl ?_
 refine o_box (v := .agg [.i a0.Round, .sl .no 1 (a0.Notches.map cI), .sl .no 1 (a0.Coins.map cI)]) (cs := [.i a0.Round, .sl .no 1 (a0.Notches.map cI), .sl .no 1 (a0.Coins.map cI)]) hS (by decide) rfl rfl (by omega) fun H hS => ?_
 refine o_box (v := .i a1) (cs := [.i a1]) hS (by decide) rfl rfl (by omega) fun H hS => ?_
 refine o_box (v := .sl .no 1 (a2.map cI)) (cs := [.sl .no 1 (a2.map cI)]) hS (by decide) rfl rfl (by omega) fun H hS => ?_
 refine o_assign (v := .i 0) (by decide) rfl ?_
 refine o_assign (v := .i 0) (by decide) rfl ?_
 refine run_nil ?_
 refine w_iceE (L' := [(g + 2, .cells [.sl .no 1 (a2.map cI)]), (g + 1, .cells [.i a1])]) 2 3 hS rfl rfl rfl fun H hS => ?_
 refine w_iceE (L' := [(g + 2, .cells [.sl .no 1 (a2.map cI)])]) 1 4 hS rfl rfl rfl fun H hS => ?_
 refine w_iceE (L' := []) 0 5 hS rfl rfl rfl fun H hS => ?_
 refine w_next [(3, .ep [.i a0.Round, .sl .no 1 (a0.Notches.map cI), .sl .no 1 (a0.Coins.map cI)]), (4, .ep [.i a1]), (5, .ep [.sl .no 1 (a2.map cI)])] (.k (.k (.k .nil))) ?_
 refine r_seq ?_
 refine r_region (n := 9) rfl ?_
 refine o_loadE (v := .agg [.i a0.Round, .sl .no 1 (a0.Notches.map cI), .sl .no 1 (a0.Coins.map cI)]) (by decide) rfl (part_agg ty_agg24 (Nat.le_of_ble_eq_true rfl) rfl) ?_
 refine o_makeFunc (first := []) (cap := [.ep [.i a1], .ep [.sl .no 1 (a2.map cI)]]) (by decide) rfl rfl ?_
 obtain ⟨r1, hr1, hM⟩ := bindE hM
 refine o_call (bs := [.agg [.i a0.Round, .sl .no 1 (a0.Notches.map cI), .sl .no 1 (a0.Coins.map cI)], .fn (.func 80) [] [.ep [.i a1], .ep [.sl .no 1 (a2.map cI)]]]) (by decide) rfl rfl (pure_of_hsat ((W_coins_open (Lo := (fun (_ : Unit) => []))  (fun _ _ => kl_nil) (fun _ => List.nodup_nil) (fun _ => inb_nil) (aF := (fun (x0 : Wheel_) (_ : Unit) => (coins_Plays_c1 n x0 a1 a2).map fun y => (y, ()))) (fun _ H hH => (.fn _ _ _ ai_nil (ai_cons (.ep _ (ai_cons (show Go.AM.Pure _ from .v _).inH ai_nil)) (ai_cons (.ep _ (ai_cons (show Go.AM.Pure _ from .sl _ _ (pures_map (fun x => (pl_cons (.v _) pl_nil)))).inH ai_nil)) ai_nil)))) rfl (fun h => csat_val (W_coins_Plays_c1 (pure_some h))) hr1).le (.k (.k .nil)))) ?_
 refine o_move (v := .tup [.agg [.i r1.1.1.Wheel.Round, .sl .no 1 (r1.1.1.Wheel.Notches.map cI), .sl .no 1 (r1.1.1.Wheel.Coins.map cI)], .i r1.1.2]) (by decide) rfl ?_
 refine o_extract (v := .agg [.i r1.1.1.Wheel.Round, .sl .no 1 (r1.1.1.Wheel.Notches.map cI), .sl .no 1 (r1.1.1.Wheel.Coins.map cI)]) (by decide) rfl rfl ?_
 refine o_extract (v := .i r1.1.2) (by decide) rfl rfl ?_
 refine o_alloc hS (by decide) ty_zero71 (by omega) fun H hS => ?_
 refine o_store (v := .agg [.i r1.1.1.Wheel.Round, .sl .no 1 (r1.1.1.Wheel.Notches.map cI), .sl .no 1 (r1.1.1.Wheel.Coins.map cI)]) (ns := [.i r1.1.1.Wheel.Round, .sl .no 1 (r1.1.1.Wheel.Notches.map cI), .sl .no 1 (r1.1.1.Wheel.Coins.map cI)]) (L' := [(g + 5 + 6, .cells [.i r1.1.1.Wheel.Round, .sl .no 1 (r1.1.1.Wheel.Notches.map cI), .sl .no 1 (r1.1.1.Wheel.Coins.map cI)])]) 0 hS rfl rfl .no rfl rfl ty_var71 (Nat.le_of_ble_eq_true rfl) rfl fun H hS => ?_
 refine o_assign (v := .i r1.1.2) (by decide) rfl ?_
 refine run_nil ?_
 refine w_iceE (L' := []) 0 8 hS rfl rfl rfl fun H hS => ?_
 refine w_next [(3, .ep [.i a0.Round, .sl .no 1 (a0.Notches.map cI), .sl .no 1 (a0.Coins.map cI)]), (4, .ep [.i a1]), (5, .ep [.sl .no 1 (a2.map cI)]), (8, .ep [.i r1.1.1.Wheel.Round, .sl .no 1 (r1.1.1.Wheel.Notches.map cI), .sl .no 1 (r1.1.1.Wheel.Coins.map cI)]), (9, .i r1.1.2)] (.k (.k (.k (.k (.k .nil))))) ?_
 refine r_seq ?_
 refine r_seq ?_
 refine r_region (n := 2) rfl ?_
 refine o_move (v := .i r1.1.2) (by decide) rfl ?_
 refine o_int (v := .b (r1.1.2 != 0)) (by decide) rfl rfl rfl ?_
 refine run_nil ?_
 refine w_next [(3, .ep [.i a0.Round, .sl .no 1 (a0.Notches.map cI), .sl .no 1 (a0.Coins.map cI)]), (4, .ep [.i a1]), (5, .ep [.sl .no 1 (a2.map cI)]), (8, .ep [.i r1.1.1.Wheel.Round, .sl .no 1 (r1.1.1.Wheel.Notches.map cI), .sl .no 1 (r1.1.1.Wheel.Coins.map cI)]), (9, .i r1.1.2), (22, .b (r1.1.2 != 0))] (.k (.k (.k (.k (.k (.k .nil)))))) ?_
 rcases Bool.eq_false_or_eq_true (r1.1.2 != 0) with hb2 | hb2
 ·replace hM := ifT hM hb2
  refine w_condT (e := (r1.1.2 != 0)) rfl hb2 ?_
  refine r_seq ?_
  refine r_region (n := 3) rfl ?_
  refine o_move (v := .i r1.1.2) (by decide) rfl ?_
  refine o_assign (v := .i 0) (by decide) rfl ?_
  refine o_assign (v := .i r1.1.2) (by decide) rfl ?_
  refine run_nil ?_
  refine w_next [(6, .i 0), (7, .i r1.1.2)] (.k (.k .nil)) ?_
  refine r_ret ?_
  refine r_then_ret ?_
  refine w_end (x := .tup [.i 0, .i r1.1.2]) (f := fun r => .tup [.i r.1, .i r.2]) (.inr rfl) ?_ (.refl _) (Option.some.inj hM) hS
  exact (res_two (res_tmp (x := .i 0) rfl) (res_tmp (x := .i r1.1.2) rfl))
 ·replace hM := ifF hM hb2
  refine w_condF (e := (r1.1.2 != 0)) rfl hb2 ?_
  refine r_skip ?_
  refine w_next [(3, .ep [.i a0.Round, .sl .no 1 (a0.Notches.map cI), .sl .no 1 (a0.Coins.map cI)]), (4, .ep [.i a1]), (5, .ep [.sl .no 1 (a2.map cI)]), (8, .ep [.i r1.1.1.Wheel.Round, .sl .no 1 (r1.1.1.Wheel.Notches.map cI), .sl .no 1 (r1.1.1.Wheel.Coins.map cI)])] (.k (.k (.k (.k .nil)))) ?_
  refine r_seq ?_
  refine r_region (n := 1) rfl ?_
  refine o_assign (v := .i 0) (by decide) rfl ?_
  refine run_nil ?_
  refine w_next [(3, .ep [.i a0.Round, .sl .no 1 (a0.Notches.map cI), .sl .no 1 (a0.Coins.map cI)]), (4, .ep [.i a1]), (5, .ep [.sl .no 1 (a2.map cI)]), (8, .ep [.i r1.1.1.Wheel.Round, .sl .no 1 (r1.1.1.Wheel.Notches.map cI), .sl .no 1 (r1.1.1.Wheel.Coins.map cI)]), (10, .i 0)] (.k (.k (.k (.k (.k .nil))))) ?_
  refine w_join (J := Int) (fun j => [(4, .ep [.i a1]), (8, .ep [.i r1.1.1.Wheel.Round, .sl .no 1 (r1.1.1.Wheel.Notches.map cI), .sl .no 1 (r1.1.1.Wheel.Coins.map cI)]), (10, .i j)]) (fun j H' g' => St (· < g) H0 [] H' g' ∧ coins_Plays_j1 n a1 r1 j = some r) ?_ ?_
  ·rintro v3 H g1 ⟨hS, hM⟩
   change wpA _ _ _ _ (Fr.of [(4, .ep [.i a1]), (8, .ep [.i r1.1.1.Wheel.Round, .sl .no 1 (r1.1.1.Wheel.Notches.map cI), .sl .no 1 (r1.1.1.Wheel.Coins.map cI)]), (10, .i v3)]) _ _
   replace hS : St (· < g) H0 [] H g1 := hS
   replace hM : coins_Plays_j1 n a1 r1 v3 = some r := hM
   refine r_seq ?_
   refine r_region (n := 9) rfl ?_
   refine o_loadE (v := .agg [.i r1.1.1.Wheel.Round, .sl .no 1 (r1.1.1.Wheel.Notches.map cI), .sl .no 1 (r1.1.1.Wheel.Coins.map cI)]) (by decide) rfl (part_agg ty_agg71 (Nat.le_of_ble_eq_true rfl) rfl) ?_
   refine o_loadE (v := .i a1) (by decide) rfl (part_one ty_agg3 ty_sc3 rfl) ?_
   refine o_move (v := .i v3) (by decide) rfl ?_
   obtain ⟨r4, hr4, hM⟩ := bindE hM
   refine o_call (bs := [.agg [.i r1.1.1.Wheel.Round, .sl .no 1 (r1.1.1.Wheel.Notches.map cI), .sl .no 1 (r1.1.1.Wheel.Coins.map cI)], .i a1, .i v3]) (by decide) rfl rfl ((W_coins_wheel_turn hr4).le (.k (.k (.k .nil)))) ?_
   refine o_move (v := .tup [.i r4.1, .i r4.2]) (by decide) rfl ?_
   refine o_extract (v := .i r4.1) (by decide) rfl rfl ?_
   refine o_extract (v := .i r4.2) (by decide) rfl rfl ?_
   refine o_assign (v := .i r4.1) (by decide) rfl ?_
   refine o_assign (v := .i r4.2) (by decide) rfl ?_
   refine run_nil ?_
   refine w_next [(14, .i r4.2)] (.k .nil) ?_
   refine r_seq ?_
   refine r_region (n := 3) rfl ?_
   refine o_move (v := .i r4.2) (by decide) rfl ?_
   refine o_assign (v := .i r4.2) (by decide) rfl ?_
   refine o_assign (v := .i 0) (by decide) rfl ?_
   refine run_nil ?_
   refine w_next [(6, .i r4.2), (7, .i 0)] (.k (.k .nil)) ?_
   refine r_ret ?_
   refine w_end (x := .tup [.i r4.2, .i 0]) (f := fun r => .tup [.i r.1, .i r.2]) (.inr rfl) ?_ (.refl _) (Option.some.inj hM) hS
   exact (res_two (res_tmp (x := .i r4.2) rfl) (res_tmp (x := .i 0) rfl))
  ·refine r_seq ?_
   refine r_region (n := 3) rfl ?_
   refine o_loadE (v := .sl .no 1 (a2.map cI)) (by decide) rfl (part_one ty_agg22 ty_sc22 rfl) ?_
   refine o_len (n := a2.length) (by decide) rfl (List.length_map _) ty_isl22 ?_
   refine o_move (v := .i 0) (by decide) rfl ?_
   refine run_nil ?_
   refine w_next [(3, .ep [.i a0.Round, .sl .no 1 (a0.Notches.map cI), .sl .no 1 (a0.Coins.map cI)]), (4, .ep [.i a1]), (8, .ep [.i r1.1.1.Wheel.Round, .sl .no 1 (r1.1.1.Wheel.Notches.map cI), .sl .no 1 (r1.1.1.Wheel.Coins.map cI)]), (10, .i 0), (24, .sl .no 1 (a2.map cI)), (25, .i (a2.length : Int)), (26, .i 0)] (.k (.k (.k (.k (.k (.k (.k .nil))))))) ?_
   refine r_block ?_
   refine w_loop (V := Int × Int) (fun v => [(3, .ep [.i a0.Round, .sl .no 1 (a0.Notches.map cI), .sl .no 1 (a0.Coins.map cI)]), (4, .ep [.i a1]), (8, .ep [.i r1.1.1.Wheel.Round, .sl .no 1 (r1.1.1.Wheel.Notches.map cI), .sl .no 1 (r1.1.1.Wheel.Coins.map cI)]), (10, .i v.1), (24, .sl .no 1 (a2.map cI)), (25, .i (a2.length : Int)), (26, .i v.2)]) (fun v m2 H' g' => St (· < g) H0 [] H' g' ∧ coins_Plays_l1 n a0 a1 a2 r1 m2 v.1 v.2 = some r) (n := n) (0, 0) (.k (.k (.k (.k (.k (.k (.k .nil))))))) ⟨(hS.keep [] rfl).up (by omega), hM⟩ ?_
   rintro ⟨v5, v6⟩ m2 H g2 ⟨hS, hM⟩
   obtain _ | m2 := m2
   ·exact nomatch (show none = some _ from hM)
   change wpA _ _ _ _ (Fr.of [(3, .ep [.i a0.Round, .sl .no 1 (a0.Notches.map cI), .sl .no 1 (a0.Coins.map cI)]), (4, .ep [.i a1]), (8, .ep [.i r1.1.1.Wheel.Round, .sl .no 1 (r1.1.1.Wheel.Notches.map cI), .sl .no 1 (r1.1.1.Wheel.Coins.map cI)]), (10, .i v5), (24, .sl .no 1 (a2.map cI)), (25, .i (a2.length : Int)), (26, .i v6)]) _ _
   replace hS : St (· < g) H0 [] H g2 := hS
   replace hM : coins_Plays_l1_b n a0 a1 a2 r1 (coins_Plays_l1 n a0 a1 a2 r1 m2) v5 v6 = some r := hM
   refine r_seq ?_
   refine r_region (n := 1) rfl ?_
   refine o_int (v := .b (decide (v6 < (a2.length : Int)))) (by decide) rfl rfl rfl ?_
   refine run_nil ?_
   refine w_next [(3, .ep [.i a0.Round, .sl .no 1 (a0.Notches.map cI), .sl .no 1 (a0.Coins.map cI)]), (4, .ep [.i a1]), (8, .ep [.i r1.1.1.Wheel.Round, .sl .no 1 (r1.1.1.Wheel.Notches.map cI), .sl .no 1 (r1.1.1.Wheel.Coins.map cI)]), (10, .i v5), (24, .sl .no 1 (a2.map cI)), (25, .i (a2.length : Int)), (26, .i v6), (27, .b (decide (v6 < (a2.length : Int))))] (.k (.k (.k (.k (.k (.k (.k (.k .nil)))))))) ?_
   refine r_seq ?_
   rcases Bool.eq_false_or_eq_true (decide (v6 < (a2.length : Int))) with hb7 | hb7
   ·replace hM := ifT hM hb7
    refine w_condT (e := (decide (v6 < (a2.length : Int)))) rfl hb7 ?_
    refine r_skip ?_
    refine w_next [(3, .ep [.i a0.Round, .sl .no 1 (a0.Notches.map cI), .sl .no 1 (a0.Coins.map cI)]), (4, .ep [.i a1]), (8, .ep [.i r1.1.1.Wheel.Round, .sl .no 1 (r1.1.1.Wheel.Notches.map cI), .sl .no 1 (r1.1.1.Wheel.Coins.map cI)]), (10, .i v5), (24, .sl .no 1 (a2.map cI)), (25, .i (a2.length : Int)), (26, .i v6)] (.k (.k (.k (.k (.k (.k (.k .nil))))))) ?_
    refine r_seq ?_
    refine r_block ?_
    refine r_seq ?_
    refine r_region (n := 3) rfl ?_
    obtain ⟨x8, hx8, hM⟩ := bindE hM
    refine o_index (xs := a2) (f := cI) (z := v6) (u := x8) (by decide) rfl rfl ty_es22 hx8 ?_
    refine o_loadE (v := .i x8) (by decide) rfl (part_one ty_agg3 ty_sc3 rfl) ?_
    refine o_assign (v := .i x8) (by decide) rfl ?_
    refine run_nil ?_
    refine w_next [(3, .ep [.i a0.Round, .sl .no 1 (a0.Notches.map cI), .sl .no 1 (a0.Coins.map cI)]), (4, .ep [.i a1]), (8, .ep [.i r1.1.1.Wheel.Round, .sl .no 1 (r1.1.1.Wheel.Notches.map cI), .sl .no 1 (r1.1.1.Wheel.Coins.map cI)]), (10, .i v5), (12, .i x8), (24, .sl .no 1 (a2.map cI)), (25, .i (a2.length : Int)), (26, .i v6)] (.k (.k (.k (.k (.k (.k (.k (.k .nil)))))))) ?_
    refine r_region (n := 8) rfl ?_
    refine o_move (v := .i v5) (by decide) rfl ?_
    refine o_fieldE (cs := [.i a0.Round, .sl .no 1 (a0.Notches.map cI), .sl .no 1 (a0.Coins.map cI)]) (by decide) ty_fo24_2 rfl ?_
    refine o_loadE (v := .sl .no 1 (a0.Coins.map cI)) (by decide) rfl (part_one ty_agg22 ty_sc22 rfl) ?_
    refine o_move (v := .i x8) (by decide) rfl ?_
    obtain ⟨x9, hx9, hM⟩ := bindE hM
    refine o_index (xs := a0.Coins) (f := cI) (z := x8) (u := x9) (by decide) rfl rfl ty_es22 hx9 ?_
    refine o_loadE (v := .i x9) (by decide) rfl (part_one ty_agg3 ty_sc3 rfl) ?_
    refine o_int (v := .i (w64 (v5 + x9))) (by decide) rfl rfl rfl ?_
    refine o_assign (v := .i (w64 (v5 + x9))) (by decide) rfl ?_
    refine run_nil ?_
    refine r_blk_normal ?_
    refine w_next [(3, .ep [.i a0.Round, .sl .no 1 (a0.Notches.map cI), .sl .no 1 (a0.Coins.map cI)]), (4, .ep [.i a1]), (8, .ep [.i r1.1.1.Wheel.Round, .sl .no 1 (r1.1.1.Wheel.Notches.map cI), .sl .no 1 (r1.1.1.Wheel.Coins.map cI)]), (10, .i (w64 (v5 + x9))), (24, .sl .no 1 (a2.map cI)), (25, .i (a2.length : Int)), (26, .i v6)] (.k (.k (.k (.k (.k (.k (.k .nil))))))) ?_
    refine r_region (n := 2) rfl ?_
    refine o_int (v := .i (w64 (v6 + 1))) (by decide) rfl rfl rfl ?_
    refine o_move (v := .i (w64 (v6 + 1))) (by decide) rfl ?_
    refine run_nil ?_
    exact w_round (w64 (v5 + x9), w64 (v6 + 1)) (Nat.lt_succ_self _) (.k (.k (.k (.k (.k (.k (.k .nil))))))) ⟨(hS.keep [] rfl).up (by omega), hM⟩
   ·replace hM := ifF hM hb7
    refine w_condF (e := (decide (v6 < (a2.length : Int)))) rfl hb7 ?_
    refine r_exit ?_
    refine r_then_exit ?_
    refine w_round_exit ?_
    refine r_blk_exit ?_
    exact w_goto v5 (.k (.k (.k .nil))) ⟨(hS.keep [] rfl).up (by omega), hM⟩
theorem W_law01_CoinsSum {n : Nat} {a0 : Wheel} {a1 : List Int} {a2 : List Int} {r : Bool} (hM : law01_CoinsSum n a0 a1 a2 = some r) : PureSat Try.prog 9 [.agg [.i a0.Round, .sl .no 1 (a0.Notches.map cI), .sl .no 1 (a0.Coins.map cI)], .sl .no 1 (a1.map cI), .sl .no 1 (a2.map cI)] (.b r) := by
 refine pure_of_wp mixed Try.func9 rfl (by decide) Try.ntmps9 (by simp) ?pure fun H0 g hf => ?_
 case pure => exact .v _
 rw [frame0_of]
 change wpA _ _ _ _ (Fr.of [(0, .agg [.i a0.Round, .sl .no 1 (a0.Notches.map cI), .sl .no 1 (a0.Coins.map cI)]), (1, .sl .no 1 (a1.map cI)), (2, .sl .no 1 (a2.map cI))]) H0 g
 have hS := St.start hf
 refine r_seq ?_
 refine r_region (n := 2) rfl ?_
 refine o_box (v := .agg [.i a0.Round, .sl .no 1 (a0.Notches.map cI), .sl .no 1 (a0.Coins.map cI)]) (cs := [.i a0.Round, .sl .no 1 (a0.Notches.map cI), .sl .no 1 (a0.Coins.map cI)]) hS (by decide) rfl rfl (by omega) fun H hS => ?_
 refine o_assign (v := .b false) (by decide) rfl ?_
 refine run_nil ?_
 refine w_iceE (L' := []) 0 3 hS rfl rfl rfl fun H hS => ?_
 refine w_next [(1, .sl .no 1 (a1.map cI)), (2, .sl .no 1 (a2.map cI)), (3, .ep [.i a0.Round, .sl .no 1 (a0.Notches.map cI), .sl .no 1 (a0.Coins.map cI)])] (.k (.k (.k .nil))) ?_
 refine r_seq ?_
 refine w_join (J := Bool) (fun j => [(1, .sl .no 1 (a1.map cI)), (2, .sl .no 1 (a2.map cI)), (3, .ep [.i a0.Round, .sl .no 1 (a0.Notches.map cI), .sl .no 1 (a0.Coins.map cI)]), (42, .b j)]) (fun j H' g' => St (· < g) H0 [] H' g' ∧ law01_CoinsSum_j1 n a0 a1 a2 j = some r) ?_ ?_
 ·rintro v1 H g1 ⟨hS, hM⟩
  change wpA _ _ _ _ (Fr.of [(1, .sl .no 1 (a1.map cI)), (2, .sl .no 1 (a2.map cI)), (3, .ep [.i a0.Round, .sl .no 1 (a0.Notches.map cI), .sl .no 1 (a0.Coins.map cI)]), (42, .b v1)]) _ _
  replace hS : St (· < g) H0 [] H g1 := hS
  replace hM : law01_CoinsSum_j1 n a0 a1 a2 v1 = some r := hM
  rcases Bool.eq_false_or_eq_true v1 with hb2 | hb2
  ·replace hM := ifT hM hb2
   refine w_condT (e := v1) rfl hb2 ?_
   refine r_seq ?_
   refine r_region (n := 2) rfl ?_
   obtain ⟨r3, hr3, hM⟩ := bindE hM
   refine o_call (bs := []) (by decide) rfl rfl ((W_law01_works hr3).le .nil) ?_
   refine o_assign (v := .b r3) (by decide) rfl ?_
   refine run_nil ?_
   refine w_next [(6, .b r3)] (.k .nil) ?_
   refine r_ret ?_
   refine r_then_ret ?_
   refine w_end (x := .b r3) (f := fun r => .b r) (.inr rfl) ?_ (.refl _) (Option.some.inj hM) hS
   exact (res_one (res_tmp (x := .b r3) rfl))
  ·replace hM := ifF hM hb2
   refine w_condF (e := v1) rfl hb2 ?_
   refine r_skip ?_
   refine w_next [(1, .sl .no 1 (a1.map cI)), (2, .sl .no 1 (a2.map cI)), (3, .ep [.i a0.Round, .sl .no 1 (a0.Notches.map cI), .sl .no 1 (a0.Coins.map cI)])] (.k (.k (.k .nil))) ?_
   refine r_seq ?_
   have hS0 := hS
   refine r_draw (n := 9) rfl (by kernel_rfl) ?_
   refine o_loadE (v := .agg [.i a0.Round, .sl .no 1 (a0.Notches.map cI), .sl .no 1 (a0.Coins.map cI)]) (by decide) rfl (part_agg ty_agg24 (Nat.le_of_ble_eq_true rfl) rfl) ?_
   refine o_move (v := .sl .no 1 (a1.map cI)) (by decide) rfl ?_
   obtain ⟨r4, hr4, hM⟩ := bindE hM
   refine o_call (bs := [.sl .no 1 (a1.map cI), .sl .nil 0 []]) (by decide) rfl rfl ((W_law01_joined hr4).le (.k (.cons (.sl0 .nil 1 0) .nil))) ?_
   obtain ⟨r5, hr5, hM⟩ := bindE hM
   refine o_call (bs := [.agg [.i a0.Round, .sl .no 1 (a0.Notches.map cI), .sl .no 1 (a0.Coins.map cI)], .i 0, .sl .no 1 (r4.map cI)]) (by decide) rfl rfl ((W_coins_Plays hr5).le (.k (.k (.k .nil)))) ?_
   refine o_move (v := .tup [.i r5.1, .i r5.2]) (by decide) rfl ?_
   refine o_extract (v := .i r5.1) (by decide) rfl rfl ?_
   refine o_extract (v := .i r5.2) (by decide) rfl rfl ?_
   refine o_assign (v := .i r5.1) (by decide) rfl ?_
   refine o_assign (v := .i r5.2) (by decide) rfl ?_
   refine run_nil ?_
   refine w_next [(1, .sl .no 1 (a1.map cI)), (2, .sl .no 1 (a2.map cI)), (3, .ep [.i a0.Round, .sl .no 1 (a0.Notches.map cI), .sl .no 1 (a0.Coins.map cI)]), (7, .i r5.1), (8, .i r5.2)] (.k (.k (.k (.k (.k .nil))))) ?_
   refine r_seq ?_
   have hS0 := hS
   refine r_draw (n := 13) rfl (by kernel_rfl) ?_
   refine o_loadE (v := .agg [.i a0.Round, .sl .no 1 (a0.Notches.map cI), .sl .no 1 (a0.Coins.map cI)]) (by decide) rfl (part_agg ty_agg24 (Nat.le_of_ble_eq_true rfl) rfl) ?_
   refine o_build (cs := [.i 0, .i 0]) (by decide) ty_zero57 ty_pl57 rfl ?_
   refine o_move (v := .sl .no 1 (a1.map cI)) (by decide) rfl ?_
   obtain ⟨r6, hr6, hM⟩ := bindE hM
   refine o_call (bs := [.sl .no 1 (a1.map cI), .sl .nil 0 []]) (by decide) rfl rfl ((W_law01_joined hr6).le (.k (.cons (.sl0 .nil 1 0) .nil))) ?_
   obtain ⟨r7, hr7, hM⟩ := bindE hM
   refine o_call (bs := [.agg [.i a0.Round, .sl .no 1 (a0.Notches.map cI), .sl .no 1 (a0.Coins.map cI)], .agg [.i 0, .i 0], .sl .no 1 (r6.map cI)]) (by decide) rfl rfl ((W_coins_Run hr7).le (.k (.k (.k .nil)))) ?_
   refine o_move (v := .tup [.agg [.i r7.1.Place, .i r7.1.Credit], .i r7.2.1, .i r7.2.2]) (by decide) rfl ?_
   refine o_extract (v := .agg [.i r7.1.Place, .i r7.1.Credit]) (by decide) rfl rfl ?_
   refine o_extract (v := .i r7.2.1) (by decide) rfl rfl ?_
   refine o_extract (v := .i r7.2.2) (by decide) rfl rfl ?_
   refine o_alloc hS (by decide) ty_zero57 (by omega) fun H hS => ?_
   refine o_store (v := .agg [.i r7.1.Place, .i r7.1.Credit]) (ns := [.i r7.1.Place, .i r7.1.Credit]) (L' := [(g1 + 9 + 9, .cells [.i r7.1.Place, .i r7.1.Credit])]) 0 hS rfl rfl (.behind (by kernel_rfl)) rfl rfl ty_var57 (Nat.le_of_ble_eq_true rfl) rfl fun H hS => ?_
   refine o_assign (v := .i r7.2.1) (by decide) rfl ?_
   refine o_assign (v := .i r7.2.2) (by decide) rfl ?_
   refine run_nil ?_
   refine w_iceE (L' := []) 0 9 hS rfl rfl rfl fun H hS => ?_
   refine w_next [(1, .sl .no 1 (a1.map cI)), (2, .sl .no 1 (a2.map cI)), (3, .ep [.i a0.Round, .sl .no 1 (a0.Notches.map cI), .sl .no 1 (a0.Coins.map cI)]), (7, .i r5.1), (8, .i r5.2), (9, .ep [.i r7.1.Place, .i r7.1.Credit]), (10, .i r7.2.1), (11, .i r7.2.2)] (.k (.k (.k (.k (.k (.k (.k (.k .nil)))))))) ?_
   refine r_seq ?_
   have hS0 := hS
   refine r_draw (n := 11) rfl (by kernel_rfl) ?_
   refine o_loadE (v := .agg [.i a0.Round, .sl .no 1 (a0.Notches.map cI), .sl .no 1 (a0.Coins.map cI)]) (by decide) rfl (part_agg ty_agg24 (Nat.le_of_ble_eq_true rfl) rfl) ?_
   refine o_fieldE (cs := [.i r7.1.Place, .i r7.1.Credit]) (by decide) ty_fo57_0 rfl ?_
   refine o_loadE (v := .i r7.1.Place) (by decide) rfl (part_one ty_agg3 ty_sc3 rfl) ?_
   refine o_move (v := .sl .no 1 (a2.map cI)) (by decide) rfl ?_
   obtain ⟨r8, hr8, hM⟩ := bindE hM
   refine o_call (bs := [.sl .no 1 (a2.map cI), .sl .nil 0 []]) (by decide) rfl rfl ((W_law01_joined hr8).le (.k (.cons (.sl0 .nil 1 0) .nil))) ?_
   obtain ⟨r9, hr9, hM⟩ := bindE hM
   refine o_call (bs := [.agg [.i a0.Round, .sl .no 1 (a0.Notches.map cI), .sl .no 1 (a0.Coins.map cI)], .i r7.1.Place, .sl .no 1 (r8.map cI)]) (by decide) rfl rfl ((W_coins_Plays hr9).le (.k (.k (.k .nil)))) ?_
   refine o_move (v := .tup [.i r9.1, .i r9.2]) (by decide) rfl ?_
   refine o_extract (v := .i r9.1) (by decide) rfl rfl ?_
   refine o_extract (v := .i r9.2) (by decide) rfl rfl ?_
   refine o_assign (v := .i r9.1) (by decide) rfl ?_
   refine o_assign (v := .i r9.2) (by decide) rfl ?_
   refine run_nil ?_
   refine w_next [(1, .sl .no 1 (a1.map cI)), (2, .sl .no 1 (a2.map cI)), (3, .ep [.i a0.Round, .sl .no 1 (a0.Notches.map cI), .sl .no 1 (a0.Coins.map cI)]), (7, .i r5.1), (8, .i r5.2), (9, .ep [.i r7.1.Place, .i r7.1.Credit]), (10, .i r7.2.1), (11, .i r7.2.2), (12, .i r9.1), (13, .i r9.2)] (.k (.k (.k (.k (.k (.k (.k (.k (.k (.k .nil)))))))))) ?_
   refine r_seq ?_
   have hS0 := hS
   refine r_draw (n := 10) rfl (by kernel_rfl) ?_
   refine o_loadE (v := .agg [.i a0.Round, .sl .no 1 (a0.Notches.map cI), .sl .no 1 (a0.Coins.map cI)]) (by decide) rfl (part_agg ty_agg24 (Nat.le_of_ble_eq_true rfl) rfl) ?_
   refine o_move (v := .sl .no 1 (a1.map cI)) (by decide) rfl ?_
   refine o_move (v := .sl .no 1 (a2.map cI)) (by decide) rfl ?_
   obtain ⟨r10, hr10, hM⟩ := bindE hM
   refine o_call (bs := [.sl .no 1 (a1.map cI), .sl .no 1 (a2.map cI)]) (by decide) rfl rfl ((W_law01_joined hr10).le (.k (.k .nil))) ?_
   obtain ⟨r11, hr11, hM⟩ := bindE hM
   refine o_call (bs := [.agg [.i a0.Round, .sl .no 1 (a0.Notches.map cI), .sl .no 1 (a0.Coins.map cI)], .i 0, .sl .no 1 (r10.map cI)]) (by decide) rfl rfl ((W_coins_Plays hr11).le (.k (.k (.k .nil)))) ?_
   refine o_move (v := .tup [.i r11.1, .i r11.2]) (by decide) rfl ?_
   refine o_extract (v := .i r11.1) (by decide) rfl rfl ?_
   refine o_extract (v := .i r11.2) (by decide) rfl rfl ?_
   refine o_assign (v := .i r11.1) (by decide) rfl ?_
   refine o_assign (v := .i r11.2) (by decide) rfl ?_
   refine run_nil ?_
   refine w_next [(1, .sl .no 1 (a1.map cI)), (2, .sl .no 1 (a2.map cI)), (3, .ep [.i a0.Round, .sl .no 1 (a0.Notches.map cI), .sl .no 1 (a0.Coins.map cI)]), (7, .i r5.1), (8, .i r5.2), (9, .ep [.i r7.1.Place, .i r7.1.Credit]), (10, .i r7.2.1), (11, .i r7.2.2), (12, .i r9.1), (13, .i r9.2), (14, .i r11.1), (15, .i r11.2)] (.k (.k (.k (.k (.k (.k (.k (.k (.k (.k (.k (.k .nil)))))))))))) ?_
   refine r_seq ?_
   have hS0 := hS
   refine r_draw (n := 10) rfl (by kernel_rfl) ?_
   refine o_loadE (v := .agg [.i a0.Round, .sl .no 1 (a0.Notches.map cI), .sl .no 1 (a0.Coins.map cI)]) (by decide) rfl (part_agg ty_agg24 (Nat.le_of_ble_eq_true rfl) rfl) ?_
   refine o_move (v := .sl .no 1 (a2.map cI)) (by decide) rfl ?_
   refine o_move (v := .sl .no 1 (a1.map cI)) (by decide) rfl ?_
   obtain ⟨r12, hr12, hM⟩ := bindE hM
   refine o_call (bs := [.sl .no 1 (a2.map cI), .sl .no 1 (a1.map cI)]) (by decide) rfl rfl ((W_law01_joined hr12).le (.k (.k .nil))) ?_
   obtain ⟨r13, hr13, hM⟩ := bindE hM
   refine o_call (bs := [.agg [.i a0.Round, .sl .no 1 (a0.Notches.map cI), .sl .no 1 (a0.Coins.map cI)], .i 0, .sl .no 1 (r12.map cI)]) (by decide) rfl rfl ((W_coins_Plays hr13).le (.k (.k (.k .nil)))) ?_
   refine o_move (v := .tup [.i r13.1, .i r13.2]) (by decide) rfl ?_
   refine o_extract (v := .i r13.1) (by decide) rfl rfl ?_
   refine o_extract (v := .i r13.2) (by decide) rfl rfl ?_
   refine o_assign (v := .i r13.1) (by decide) rfl ?_
   refine o_assign (v := .i r13.2) (by decide) rfl ?_
   refine run_nil ?_
   refine w_next [(7, .i r5.1), (8, .i r5.2), (9, .ep [.i r7.1.Place, .i r7.1.Credit]), (10, .i r7.2.1), (11, .i r7.2.2), (12, .i r9.1), (13, .i r9.2), (14, .i r11.1), (15, .i r11.2), (16, .i r13.1), (17, .i r13.2)] (.k (.k (.k (.k (.k (.k (.k (.k (.k (.k (.k .nil))))))))))) ?_
   refine r_seq ?_
   refine w_join (J := Bool) (fun j => [(7, .i r5.1), (9, .ep [.i r7.1.Place, .i r7.1.Credit]), (10, .i r7.2.1), (12, .i r9.1), (14, .i r11.1), (16, .i r13.1), (118, .b j)]) (fun j H' g' => St (· < g) H0 [] H' g' ∧ law01_CoinsSum_j2 n r5 r7 r9 r11 r13 j = some r) ?_ ?_
   ·rintro v14 H g2 ⟨hS, hM⟩
    change wpA _ _ _ _ (Fr.of [(7, .i r5.1), (9, .ep [.i r7.1.Place, .i r7.1.Credit]), (10, .i r7.2.1), (12, .i r9.1), (14, .i r11.1), (16, .i r13.1), (118, .b v14)]) _ _
    replace hS : St (· < g) H0 [] H g2 := hS
    replace hM : law01_CoinsSum_j2 n r5 r7 r9 r11 r13 v14 = some r := hM
    rcases Bool.eq_false_or_eq_true v14 with hb15 | hb15
    ·replace hM := ifT hM hb15
     refine w_condT (e := v14) rfl hb15 ?_
     refine r_seq ?_
     refine r_region (n := 1) rfl ?_
     refine o_assign (v := .b false) (by decide) rfl ?_
     refine run_nil ?_
     refine w_next [(6, .b false)] (.k .nil) ?_
     refine r_ret ?_
     refine r_then_ret ?_
     refine w_end (x := .b false) (f := fun r => .b r) (.inr rfl) ?_ (.refl _) (Option.some.inj hM) hS
     exact (res_one (res_tmp (x := .b false) rfl))
    ·replace hM := ifF hM hb15
     refine w_condF (e := v14) rfl hb15 ?_
     refine r_skip ?_
     refine w_next [(7, .i r5.1), (9, .ep [.i r7.1.Place, .i r7.1.Credit]), (10, .i r7.2.1), (12, .i r9.1), (14, .i r11.1), (16, .i r13.1)] (.k (.k (.k (.k (.k (.k .nil)))))) ?_
     refine w_join (J := Bool) (fun j => [(6, .b j)]) (fun j H' g' => St (· < g) H0 [] H' g' ∧ law01_CoinsSum_j3 j = some r) ?_ ?_
     ·rintro v16 H g3 ⟨hS, hM⟩
      change wpA _ _ _ _ (Fr.of [(6, .b v16)]) _ _
      replace hS : St (· < g) H0 [] H g3 := hS
      replace hM : law01_CoinsSum_j3 v16 = some r := hM
      refine r_ret ?_
      refine w_end (x := .b v16) (f := fun r => .b r) (.inr rfl) ?_ (.refl _) (Option.some.inj hM) hS
      exact (res_one (res_tmp (x := .b v16) rfl))
     ·refine r_region (n := 24) rfl ?_
      refine o_move (v := .i r7.2.1) (by decide) rfl ?_
      refine o_int (v := .b (r7.2.1 == 0)) (by decide) rfl rfl rfl ?_
      refine o_move (v := .b (r7.2.1 == 0)) (by decide) rfl ?_
      rcases Bool.eq_false_or_eq_true (r7.2.1 == 0) with hb17 | hb17
      ·replace hM := ifT hM hb17
       refine o_guardY (j := 2) (e := (r7.2.1 == 0)) (want := true) rfl hb17 ?_
       refine o_fieldE (cs := [.i r7.1.Place, .i r7.1.Credit]) (by decide) ty_fo57_1 rfl ?_
       refine o_guardY (j := 2) (e := (r7.2.1 == 0)) (want := true) rfl hb17 ?_
       refine o_loadE (v := .i r7.1.Credit) (by decide) rfl (part_one ty_agg3 ty_sc3 rfl) ?_
       refine o_guardY (j := 2) (e := (r7.2.1 == 0)) (want := true) rfl hb17 ?_
       refine o_move (v := .i r5.1) (by decide) rfl ?_
       refine o_guardY (j := 2) (e := (r7.2.1 == 0)) (want := true) rfl hb17 ?_
       refine o_int (v := .b (r7.1.Credit == r5.1)) (by decide) rfl rfl rfl ?_
       refine o_pickT (v := .b (r7.1.Credit == r5.1)) (e := (r7.2.1 == 0)) (by decide) rfl hb17 rfl ?_
       refine o_move (v := .b (r7.1.Credit == r5.1)) (by decide) rfl ?_
       rcases Bool.eq_false_or_eq_true (r7.1.Credit == r5.1) with hb18 | hb18
       ·replace hM := ifT hM hb18
        refine o_guardY (j := 8) (e := (r7.1.Credit == r5.1)) (want := true) rfl hb18 ?_
        refine o_move (v := .i r11.1) (by decide) rfl ?_
        refine o_guardY (j := 8) (e := (r7.1.Credit == r5.1)) (want := true) rfl hb18 ?_
        refine o_move (v := .i r5.1) (by decide) rfl ?_
        refine o_guardY (j := 8) (e := (r7.1.Credit == r5.1)) (want := true) rfl hb18 ?_
        refine o_move (v := .i r9.1) (by decide) rfl ?_
        refine o_guardY (j := 8) (e := (r7.1.Credit == r5.1)) (want := true) rfl hb18 ?_
        refine o_int (v := .i (w64 (r5.1 + r9.1))) (by decide) rfl rfl rfl ?_
        refine o_guardY (j := 8) (e := (r7.1.Credit == r5.1)) (want := true) rfl hb18 ?_
        refine o_int (v := .b (r11.1 == (w64 (r5.1 + r9.1)))) (by decide) rfl rfl rfl ?_
        refine o_pickT (v := .b (r11.1 == (w64 (r5.1 + r9.1)))) (e := (r7.1.Credit == r5.1)) (by decide) rfl hb18 rfl ?_
        refine o_move (v := .b (r11.1 == (w64 (r5.1 + r9.1)))) (by decide) rfl ?_
        rcases Bool.eq_false_or_eq_true (r11.1 == (w64 (r5.1 + r9.1))) with hb19 | hb19
        ·replace hM := ifT hM hb19
         refine o_guardY (j := 15) (e := (r11.1 == (w64 (r5.1 + r9.1)))) (want := true) rfl hb19 ?_
         refine o_move (v := .i r13.1) (by decide) rfl ?_
         refine o_guardY (j := 15) (e := (r11.1 == (w64 (r5.1 + r9.1)))) (want := true) rfl hb19 ?_
         refine o_move (v := .i r11.1) (by decide) rfl ?_
         refine o_guardY (j := 15) (e := (r11.1 == (w64 (r5.1 + r9.1)))) (want := true) rfl hb19 ?_
         refine o_int (v := .b (r13.1 == r11.1)) (by decide) rfl rfl rfl ?_
         refine o_pickT (v := .b (r13.1 == r11.1)) (e := (r11.1 == (w64 (r5.1 + r9.1)))) (by decide) rfl hb19 rfl ?_
         refine o_move (v := .b (r13.1 == r11.1)) (by decide) rfl ?_
         rcases Bool.eq_false_or_eq_true (r13.1 == r11.1) with hb20 | hb20
         ·replace hM := ifT hM hb20
          refine o_guardY (j := 20) (e := (r13.1 == r11.1)) (want := true) rfl hb20 ?_
          obtain ⟨r21, hr21, hM⟩ := bindE hM
          refine o_call (bs := []) (by decide) rfl rfl ((W_law01_works hr21).le .nil) ?_
          refine o_pickT (v := .b r21) (e := (r13.1 == r11.1)) (by decide) rfl hb20 rfl ?_
          refine o_assign (v := .b r21) (by decide) rfl ?_
          refine run_nil ?_
          exact w_goto r21 (.k .nil) ⟨(hS.keep [] rfl).up (by omega), hM⟩
         ·replace hM := ifF hM hb20
          refine o_guardN (j := 20) (e := (r13.1 == r11.1)) (want := true) (by decide) rfl hb20 ?_
          refine o_pickF (v := .b false) (e := (r13.1 == r11.1)) (by decide) rfl hb20 rfl ?_
          refine o_assign (v := .b false) (by decide) rfl ?_
          refine run_nil ?_
          exact w_goto false (.k .nil) ⟨(hS.keep [] rfl).up (by omega), hM⟩
        ·replace hM := ifF hM hb19
         refine o_guardN (j := 15) (e := (r11.1 == (w64 (r5.1 + r9.1)))) (want := true) (by decide) rfl hb19 ?_
         refine o_guardN (j := 15) (e := (r11.1 == (w64 (r5.1 + r9.1)))) (want := true) (by decide) rfl hb19 ?_
         refine o_guardN (j := 15) (e := (r11.1 == (w64 (r5.1 + r9.1)))) (want := true) (by decide) rfl hb19 ?_
         refine o_pickF (v := .b false) (e := (r11.1 == (w64 (r5.1 + r9.1)))) (by decide) rfl hb19 rfl ?_
         refine o_move (v := .b false) (by decide) rfl ?_
         refine o_guardN (j := 20) (e := false) (want := true) (by decide) rfl rfl ?_
         refine o_pickF (v := .b false) (e := false) (by decide) rfl rfl rfl ?_
         refine o_assign (v := .b false) (by decide) rfl ?_
         refine run_nil ?_
         exact w_goto false (.k .nil) ⟨(hS.keep [] rfl).up (by omega), hM⟩
       ·replace hM := ifF hM hb18
        refine o_guardN (j := 8) (e := (r7.1.Credit == r5.1)) (want := true) (by decide) rfl hb18 ?_
        refine o_guardN (j := 8) (e := (r7.1.Credit == r5.1)) (want := true) (by decide) rfl hb18 ?_
        refine o_guardN (j := 8) (e := (r7.1.Credit == r5.1)) (want := true) (by decide) rfl hb18 ?_
        refine o_guardN (j := 8) (e := (r7.1.Credit == r5.1)) (want := true) (by decide) rfl hb18 ?_
        refine o_guardN (j := 8) (e := (r7.1.Credit == r5.1)) (want := true) (by decide) rfl hb18 ?_
        refine o_pickF (v := .b false) (e := (r7.1.Credit == r5.1)) (by decide) rfl hb18 rfl ?_
        refine o_move (v := .b false) (by decide) rfl ?_
        refine o_guardN (j := 15) (e := false) (want := true) (by decide) rfl rfl ?_
        refine o_guardN (j := 15) (e := false) (want := true) (by decide) rfl rfl ?_
        refine o_guardN (j := 15) (e := false) (want := true) (by decide) rfl rfl ?_
        refine o_pickF (v := .b false) (e := false) (by decide) rfl rfl rfl ?_
        refine o_move (v := .b false) (by decide) rfl ?_
        refine o_guardN (j := 20) (e := false) (want := true) (by decide) rfl rfl ?_
        refine o_pickF (v := .b false) (e := false) (by decide) rfl rfl rfl ?_
        refine o_assign (v := .b false) (by decide) rfl ?_
        refine run_nil ?_
        exact w_goto false (.k .nil) ⟨(hS.keep [] rfl).up (by omega), hM⟩
      ·replace hM := ifF hM hb17
       refine o_guardN (j := 2) (e := (r7.2.1 == 0)) (want := true) (by decide) rfl hb17 ?_
       refine o_guardN (j := 2) (e := (r7.2.1 == 0)) (want := true) (by decide) rfl hb17 ?_
       refine o_guardN (j := 2) (e := (r7.2.1 == 0)) (want := true) (by decide) rfl hb17 ?_
       refine o_guardN (j := 2) (e := (r7.2.1 == 0)) (want := true) (by decide) rfl hb17 ?_
       refine o_pickF (v := .b false) (e := (r7.2.1 == 0)) (by decide) rfl hb17 rfl ?_
       refine o_move (v := .b false) (by decide) rfl ?_
       refine o_guardN (j := 8) (e := false) (want := true) (by decide) rfl rfl ?_
       refine o_guardN (j := 8) (e := false) (want := true) (by decide) rfl rfl ?_
       refine o_guardN (j := 8) (e := false) (want := true) (by decide) rfl rfl ?_
       refine o_guardN (j := 8) (e := false) (want := true) (by decide) rfl rfl ?_
       refine o_guardN (j := 8) (e := false) (want := true) (by decide) rfl rfl ?_
       refine o_pickF (v := .b false) (e := false) (by decide) rfl rfl rfl ?_
       refine o_move (v := .b false) (by decide) rfl ?_
       refine o_guardN (j := 15) (e := false) (want := true) (by decide) rfl rfl ?_
       refine o_guardN (j := 15) (e := false) (want := true) (by decide) rfl rfl ?_
       refine o_guardN (j := 15) (e := false) (want := true) (by decide) rfl rfl ?_
       refine o_pickF (v := .b false) (e := false) (by decide) rfl rfl rfl ?_
       refine o_move (v := .b false) (by decide) rfl ?_
       refine o_guardN (j := 20) (e := false) (want := true) (by decide) rfl rfl ?_
       refine o_pickF (v := .b false) (e := false) (by decide) rfl rfl rfl ?_
       refine o_assign (v := .b false) (by decide) rfl ?_
       refine run_nil ?_
       exact w_goto false (.k .nil) ⟨(hS.keep [] rfl).up (by omega), hM⟩
   ·refine r_region (n := 34) rfl ?_
    refine o_move (v := .i r5.2) (by decide) rfl ?_
    refine o_int (v := .b (r5.2 != 0)) (by decide) rfl rfl rfl ?_
    refine o_move (v := .b (r5.2 != 0)) (by decide) rfl ?_
    rcases Bool.eq_false_or_eq_true (r5.2 != 0) with hb22 | hb22
    ·replace hM := ifT hM hb22
     refine o_guardN (j := 2) (e := (r5.2 != 0)) (want := false) (by decide) rfl hb22 ?_
     refine o_guardN (j := 2) (e := (r5.2 != 0)) (want := false) (by decide) rfl hb22 ?_
     refine o_pickT (v := .b true) (e := (r5.2 != 0)) (by decide) rfl hb22 rfl ?_
     refine o_move (v := .b true) (by decide) rfl ?_
     refine o_guardN (j := 6) (e := true) (want := false) (by decide) rfl rfl ?_
     refine o_guardN (j := 6) (e := true) (want := false) (by decide) rfl rfl ?_
     refine o_pickT (v := .b true) (e := true) (by decide) rfl rfl rfl ?_
     refine o_move (v := .b true) (by decide) rfl ?_
     refine o_guardN (j := 10) (e := true) (want := false) (by decide) rfl rfl ?_
     refine o_guardN (j := 10) (e := true) (want := false) (by decide) rfl rfl ?_
     refine o_pickT (v := .b true) (e := true) (by decide) rfl rfl rfl ?_
     refine o_move (v := .b true) (by decide) rfl ?_
     refine o_guardN (j := 14) (e := true) (want := false) (by decide) rfl rfl ?_
     refine o_guardN (j := 14) (e := true) (want := false) (by decide) rfl rfl ?_
     refine o_pickT (v := .b true) (e := true) (by decide) rfl rfl rfl ?_
     refine o_move (v := .b true) (by decide) rfl ?_
     refine o_guardN (j := 18) (e := true) (want := false) (by decide) rfl rfl ?_
     refine o_guardN (j := 18) (e := true) (want := false) (by decide) rfl rfl ?_
     refine o_pickT (v := .b true) (e := true) (by decide) rfl rfl rfl ?_
     refine o_move (v := .b true) (by decide) rfl ?_
     refine o_guardN (j := 22) (e := true) (want := false) (by decide) rfl rfl ?_
     refine o_guardN (j := 22) (e := true) (want := false) (by decide) rfl rfl ?_
     refine o_pickT (v := .b true) (e := true) (by decide) rfl rfl rfl ?_
     refine o_move (v := .b true) (by decide) rfl ?_
     refine o_guardN (j := 26) (e := true) (want := false) (by decide) rfl rfl ?_
     refine o_guardN (j := 26) (e := true) (want := false) (by decide) rfl rfl ?_
     refine o_pickT (v := .b true) (e := true) (by decide) rfl rfl rfl ?_
     refine o_move (v := .b true) (by decide) rfl ?_
     refine o_guardN (j := 30) (e := true) (want := false) (by decide) rfl rfl ?_
     refine o_guardN (j := 30) (e := true) (want := false) (by decide) rfl rfl ?_
     refine o_pickT (v := .b true) (e := true) (by decide) rfl rfl rfl ?_
     refine run_nil ?_
     exact w_goto true (.k (.k (.k (.k (.k (.k (.k .nil))))))) ⟨(hS.keep [] rfl).up (by omega), hM⟩
    ·replace hM := ifF hM hb22
     refine o_guardY (j := 2) (e := (r5.2 != 0)) (want := false) rfl hb22 ?_
     refine o_move (v := .i r7.2.2) (by decide) rfl ?_
     refine o_guardY (j := 2) (e := (r5.2 != 0)) (want := false) rfl hb22 ?_
     refine o_int (v := .b (r7.2.2 != 0)) (by decide) rfl rfl rfl ?_
     refine o_pickF (v := .b (r7.2.2 != 0)) (e := (r5.2 != 0)) (by decide) rfl hb22 rfl ?_
     refine o_move (v := .b (r7.2.2 != 0)) (by decide) rfl ?_
     rcases Bool.eq_false_or_eq_true (r7.2.2 != 0) with hb23 | hb23
     ·replace hM := ifT hM hb23
      refine o_guardN (j := 6) (e := (r7.2.2 != 0)) (want := false) (by decide) rfl hb23 ?_
      refine o_guardN (j := 6) (e := (r7.2.2 != 0)) (want := false) (by decide) rfl hb23 ?_
      refine o_pickT (v := .b true) (e := (r7.2.2 != 0)) (by decide) rfl hb23 rfl ?_
      refine o_move (v := .b true) (by decide) rfl ?_
      refine o_guardN (j := 10) (e := true) (want := false) (by decide) rfl rfl ?_
      refine o_guardN (j := 10) (e := true) (want := false) (by decide) rfl rfl ?_
      refine o_pickT (v := .b true) (e := true) (by decide) rfl rfl rfl ?_
      refine o_move (v := .b true) (by decide) rfl ?_
      refine o_guardN (j := 14) (e := true) (want := false) (by decide) rfl rfl ?_
      refine o_guardN (j := 14) (e := true) (want := false) (by decide) rfl rfl ?_
      refine o_pickT (v := .b true) (e := true) (by decide) rfl rfl rfl ?_
      refine o_move (v := .b true) (by decide) rfl ?_
      refine o_guardN (j := 18) (e := true) (want := false) (by decide) rfl rfl ?_
      refine o_guardN (j := 18) (e := true) (want := false) (by decide) rfl rfl ?_
      refine o_pickT (v := .b true) (e := true) (by decide) rfl rfl rfl ?_
      refine o_move (v := .b true) (by decide) rfl ?_
      refine o_guardN (j := 22) (e := true) (want := false) (by decide) rfl rfl ?_
      refine o_guardN (j := 22) (e := true) (want := false) (by decide) rfl rfl ?_
      refine o_pickT (v := .b true) (e := true) (by decide) rfl rfl rfl ?_
      refine o_move (v := .b true) (by decide) rfl ?_
      refine o_guardN (j := 26) (e := true) (want := false) (by decide) rfl rfl ?_
      refine o_guardN (j := 26) (e := true) (want := false) (by decide) rfl rfl ?_
      refine o_pickT (v := .b true) (e := true) (by decide) rfl rfl rfl ?_
      refine o_move (v := .b true) (by decide) rfl ?_
      refine o_guardN (j := 30) (e := true) (want := false) (by decide) rfl rfl ?_
      refine o_guardN (j := 30) (e := true) (want := false) (by decide) rfl rfl ?_
      refine o_pickT (v := .b true) (e := true) (by decide) rfl rfl rfl ?_
      refine run_nil ?_
      exact w_goto true (.k (.k (.k (.k (.k (.k (.k .nil))))))) ⟨(hS.keep [] rfl).up (by omega), hM⟩
     ·replace hM := ifF hM hb23
      refine o_guardY (j := 6) (e := (r7.2.2 != 0)) (want := false) rfl hb23 ?_
      refine o_move (v := .i r9.2) (by decide) rfl ?_
      refine o_guardY (j := 6) (e := (r7.2.2 != 0)) (want := false) rfl hb23 ?_
      refine o_int (v := .b (r9.2 != 0)) (by decide) rfl rfl rfl ?_
      refine o_pickF (v := .b (r9.2 != 0)) (e := (r7.2.2 != 0)) (by decide) rfl hb23 rfl ?_
      refine o_move (v := .b (r9.2 != 0)) (by decide) rfl ?_
      rcases Bool.eq_false_or_eq_true (r9.2 != 0) with hb24 | hb24
      ·replace hM := ifT hM hb24
       refine o_guardN (j := 10) (e := (r9.2 != 0)) (want := false) (by decide) rfl hb24 ?_
       refine o_guardN (j := 10) (e := (r9.2 != 0)) (want := false) (by decide) rfl hb24 ?_
       refine o_pickT (v := .b true) (e := (r9.2 != 0)) (by decide) rfl hb24 rfl ?_
       refine o_move (v := .b true) (by decide) rfl ?_
       refine o_guardN (j := 14) (e := true) (want := false) (by decide) rfl rfl ?_
       refine o_guardN (j := 14) (e := true) (want := false) (by decide) rfl rfl ?_
       refine o_pickT (v := .b true) (e := true) (by decide) rfl rfl rfl ?_
       refine o_move (v := .b true) (by decide) rfl ?_
       refine o_guardN (j := 18) (e := true) (want := false) (by decide) rfl rfl ?_
       refine o_guardN (j := 18) (e := true) (want := false) (by decide) rfl rfl ?_
       refine o_pickT (v := .b true) (e := true) (by decide) rfl rfl rfl ?_
       refine o_move (v := .b true) (by decide) rfl ?_
       refine o_guardN (j := 22) (e := true) (want := false) (by decide) rfl rfl ?_
       refine o_guardN (j := 22) (e := true) (want := false) (by decide) rfl rfl ?_
       refine o_pickT (v := .b true) (e := true) (by decide) rfl rfl rfl ?_
       refine o_move (v := .b true) (by decide) rfl ?_
       refine o_guardN (j := 26) (e := true) (want := false) (by decide) rfl rfl ?_
       refine o_guardN (j := 26) (e := true) (want := false) (by decide) rfl rfl ?_
       refine o_pickT (v := .b true) (e := true) (by decide) rfl rfl rfl ?_
       refine o_move (v := .b true) (by decide) rfl ?_
       refine o_guardN (j := 30) (e := true) (want := false) (by decide) rfl rfl ?_
       refine o_guardN (j := 30) (e := true) (want := false) (by decide) rfl rfl ?_
       refine o_pickT (v := .b true) (e := true) (by decide) rfl rfl rfl ?_
       refine run_nil ?_
       exact w_goto true (.k (.k (.k (.k (.k (.k (.k .nil))))))) ⟨(hS.keep [] rfl).up (by omega), hM⟩
      ·replace hM := ifF hM hb24
       refine o_guardY (j := 10) (e := (r9.2 != 0)) (want := false) rfl hb24 ?_
       refine o_move (v := .i r11.2) (by decide) rfl ?_
       refine o_guardY (j := 10) (e := (r9.2 != 0)) (want := false) rfl hb24 ?_
       refine o_int (v := .b (r11.2 != 0)) (by decide) rfl rfl rfl ?_
       refine o_pickF (v := .b (r11.2 != 0)) (e := (r9.2 != 0)) (by decide) rfl hb24 rfl ?_
       refine o_move (v := .b (r11.2 != 0)) (by decide) rfl ?_
       rcases Bool.eq_false_or_eq_true (r11.2 != 0) with hb25 | hb25
       ·replace hM := ifT hM hb25
        refine o_guardN (j := 14) (e := (r11.2 != 0)) (want := false) (by decide) rfl hb25 ?_
        refine o_guardN (j := 14) (e := (r11.2 != 0)) (want := false) (by decide) rfl hb25 ?_
        refine o_pickT (v := .b true) (e := (r11.2 != 0)) (by decide) rfl hb25 rfl ?_
        refine o_move (v := .b true) (by decide) rfl ?_
        refine o_guardN (j := 18) (e := true) (want := false) (by decide) rfl rfl ?_
        refine o_guardN (j := 18) (e := true) (want := false) (by decide) rfl rfl ?_
        refine o_pickT (v := .b true) (e := true) (by decide) rfl rfl rfl ?_
        refine o_move (v := .b true) (by decide) rfl ?_
        refine o_guardN (j := 22) (e := true) (want := false) (by decide) rfl rfl ?_
        refine o_guardN (j := 22) (e := true) (want := false) (by decide) rfl rfl ?_
        refine o_pickT (v := .b true) (e := true) (by decide) rfl rfl rfl ?_
        refine o_move (v := .b true) (by decide) rfl ?_
        refine o_guardN (j := 26) (e := true) (want := false) (by decide) rfl rfl ?_
        refine o_guardN (j := 26) (e := true) (want := false) (by decide) rfl rfl ?_
        refine o_pickT (v := .b true) (e := true) (by decide) rfl rfl rfl ?_
        refine o_move (v := .b true) (by decide) rfl ?_
        refine o_guardN (j := 30) (e := true) (want := false) (by decide) rfl rfl ?_
        refine o_guardN (j := 30) (e := true) (want := false) (by decide) rfl rfl ?_
        refine o_pickT (v := .b true) (e := true) (by decide) rfl rfl rfl ?_
        refine run_nil ?_
        exact w_goto true (.k (.k (.k (.k (.k (.k (.k .nil))))))) ⟨(hS.keep [] rfl).up (by omega), hM⟩
       ·replace hM := ifF hM hb25
        refine o_guardY (j := 14) (e := (r11.2 != 0)) (want := false) rfl hb25 ?_
        refine o_move (v := .i r13.2) (by decide) rfl ?_
        refine o_guardY (j := 14) (e := (r11.2 != 0)) (want := false) rfl hb25 ?_
        refine o_int (v := .b (r13.2 != 0)) (by decide) rfl rfl rfl ?_
        refine o_pickF (v := .b (r13.2 != 0)) (e := (r11.2 != 0)) (by decide) rfl hb25 rfl ?_
        refine o_move (v := .b (r13.2 != 0)) (by decide) rfl ?_
        rcases Bool.eq_false_or_eq_true (r13.2 != 0) with hb26 | hb26
        ·replace hM := ifT hM hb26
         refine o_guardN (j := 18) (e := (r13.2 != 0)) (want := false) (by decide) rfl hb26 ?_
         refine o_guardN (j := 18) (e := (r13.2 != 0)) (want := false) (by decide) rfl hb26 ?_
         refine o_pickT (v := .b true) (e := (r13.2 != 0)) (by decide) rfl hb26 rfl ?_
         refine o_move (v := .b true) (by decide) rfl ?_
         refine o_guardN (j := 22) (e := true) (want := false) (by decide) rfl rfl ?_
         refine o_guardN (j := 22) (e := true) (want := false) (by decide) rfl rfl ?_
         refine o_pickT (v := .b true) (e := true) (by decide) rfl rfl rfl ?_
         refine o_move (v := .b true) (by decide) rfl ?_
         refine o_guardN (j := 26) (e := true) (want := false) (by decide) rfl rfl ?_
         refine o_guardN (j := 26) (e := true) (want := false) (by decide) rfl rfl ?_
         refine o_pickT (v := .b true) (e := true) (by decide) rfl rfl rfl ?_
         refine o_move (v := .b true) (by decide) rfl ?_
         refine o_guardN (j := 30) (e := true) (want := false) (by decide) rfl rfl ?_
         refine o_guardN (j := 30) (e := true) (want := false) (by decide) rfl rfl ?_
         refine o_pickT (v := .b true) (e := true) (by decide) rfl rfl rfl ?_
         refine run_nil ?_
         exact w_goto true (.k (.k (.k (.k (.k (.k (.k .nil))))))) ⟨(hS.keep [] rfl).up (by omega), hM⟩
        ·replace hM := ifF hM hb26
         refine o_guardY (j := 18) (e := (r13.2 != 0)) (want := false) rfl hb26 ?_
         refine o_move (v := .i r5.1) (by decide) rfl ?_
         refine o_guardY (j := 18) (e := (r13.2 != 0)) (want := false) rfl hb26 ?_
         refine o_int (v := .b (decide (r5.1 < 0))) (by decide) rfl rfl rfl ?_
         refine o_pickF (v := .b (decide (r5.1 < 0))) (e := (r13.2 != 0)) (by decide) rfl hb26 rfl ?_
         refine o_move (v := .b (decide (r5.1 < 0))) (by decide) rfl ?_
         rcases Bool.eq_false_or_eq_true (decide (r5.1 < 0)) with hb27 | hb27
         ·replace hM := ifT hM hb27
          refine o_guardN (j := 22) (e := (decide (r5.1 < 0))) (want := false) (by decide) rfl hb27 ?_
          refine o_guardN (j := 22) (e := (decide (r5.1 < 0))) (want := false) (by decide) rfl hb27 ?_
          refine o_pickT (v := .b true) (e := (decide (r5.1 < 0))) (by decide) rfl hb27 rfl ?_
          refine o_move (v := .b true) (by decide) rfl ?_
          refine o_guardN (j := 26) (e := true) (want := false) (by decide) rfl rfl ?_
          refine o_guardN (j := 26) (e := true) (want := false) (by decide) rfl rfl ?_
          refine o_pickT (v := .b true) (e := true) (by decide) rfl rfl rfl ?_
          refine o_move (v := .b true) (by decide) rfl ?_
          refine o_guardN (j := 30) (e := true) (want := false) (by decide) rfl rfl ?_
          refine o_guardN (j := 30) (e := true) (want := false) (by decide) rfl rfl ?_
          refine o_pickT (v := .b true) (e := true) (by decide) rfl rfl rfl ?_
          refine run_nil ?_
          exact w_goto true (.k (.k (.k (.k (.k (.k (.k .nil))))))) ⟨(hS.keep [] rfl).up (by omega), hM⟩
         ·replace hM := ifF hM hb27
          refine o_guardY (j := 22) (e := (decide (r5.1 < 0))) (want := false) rfl hb27 ?_
          refine o_move (v := .i r9.1) (by decide) rfl ?_
          refine o_guardY (j := 22) (e := (decide (r5.1 < 0))) (want := false) rfl hb27 ?_
          refine o_int (v := .b (decide (r9.1 < 0))) (by decide) rfl rfl rfl ?_
          refine o_pickF (v := .b (decide (r9.1 < 0))) (e := (decide (r5.1 < 0))) (by decide) rfl hb27 rfl ?_
          refine o_move (v := .b (decide (r9.1 < 0))) (by decide) rfl ?_
          rcases Bool.eq_false_or_eq_true (decide (r9.1 < 0)) with hb28 | hb28
          ·replace hM := ifT hM hb28
           refine o_guardN (j := 26) (e := (decide (r9.1 < 0))) (want := false) (by decide) rfl hb28 ?_
           refine o_guardN (j := 26) (e := (decide (r9.1 < 0))) (want := false) (by decide) rfl hb28 ?_
           refine o_pickT (v := .b true) (e := (decide (r9.1 < 0))) (by decide) rfl hb28 rfl ?_
           refine o_move (v := .b true) (by decide) rfl ?_
           refine o_guardN (j := 30) (e := true) (want := false) (by decide) rfl rfl ?_
           refine o_guardN (j := 30) (e := true) (want := false) (by decide) rfl rfl ?_
           refine o_pickT (v := .b true) (e := true) (by decide) rfl rfl rfl ?_
           refine run_nil ?_
           exact w_goto true (.k (.k (.k (.k (.k (.k (.k .nil))))))) ⟨(hS.keep [] rfl).up (by omega), hM⟩
          ·replace hM := ifF hM hb28
           refine o_guardY (j := 26) (e := (decide (r9.1 < 0))) (want := false) rfl hb28 ?_
           refine o_move (v := .i r5.1) (by decide) rfl ?_
           refine o_guardY (j := 26) (e := (decide (r9.1 < 0))) (want := false) rfl hb28 ?_
           refine o_int (v := .b (decide (r5.1 > 1048576))) (by decide) rfl rfl rfl ?_
           refine o_pickF (v := .b (decide (r5.1 > 1048576))) (e := (decide (r9.1 < 0))) (by decide) rfl hb28 rfl ?_
           refine o_move (v := .b (decide (r5.1 > 1048576))) (by decide) rfl ?_
           rcases Bool.eq_false_or_eq_true (decide (r5.1 > 1048576)) with hb29 | hb29
           ·replace hM := ifT hM hb29
            refine o_guardN (j := 30) (e := (decide (r5.1 > 1048576))) (want := false) (by decide) rfl hb29 ?_
            refine o_guardN (j := 30) (e := (decide (r5.1 > 1048576))) (want := false) (by decide) rfl hb29 ?_
            refine o_pickT (v := .b true) (e := (decide (r5.1 > 1048576))) (by decide) rfl hb29 rfl ?_
            refine run_nil ?_
            exact w_goto true (.k (.k (.k (.k (.k (.k (.k .nil))))))) ⟨(hS.keep [] rfl).up (by omega), hM⟩
           ·replace hM := ifF hM hb29
            refine o_guardY (j := 30) (e := (decide (r5.1 > 1048576))) (want := false) rfl hb29 ?_
            refine o_move (v := .i r9.1) (by decide) rfl ?_
            refine o_guardY (j := 30) (e := (decide (r5.1 > 1048576))) (want := false) rfl hb29 ?_
            refine o_int (v := .b (decide (r9.1 > 1048576))) (by decide) rfl rfl rfl ?_
            refine o_pickF (v := .b (decide (r9.1 > 1048576))) (e := (decide (r5.1 > 1048576))) (by decide) rfl hb29 rfl ?_
            refine run_nil ?_
            exact w_goto (decide (r9.1 > 1048576)) (.k (.k (.k (.k (.k (.k (.k .nil))))))) ⟨(hS.keep [] rfl).up (by omega), hM⟩
 ·refine r_region (n := 25) rfl ?_
  refine o_loadE (v := .agg [.i a0.Round, .sl .no 1 (a0.Notches.map cI), .sl .no 1 (a0.Coins.map cI)]) (by decide) rfl (part_agg ty_agg24 (Nat.le_of_ble_eq_true rfl) rfl) ?_
  obtain ⟨r30, hr30, hM⟩ := bindE hM
  refine o_call (bs := [.agg [.i a0.Round, .sl .no 1 (a0.Notches.map cI), .sl .no 1 (a0.Coins.map cI)]]) (by decide) rfl rfl ((W_law01_isWheel hr30).le (.k .nil)) ?_
  refine o_not (e := r30) (by decide) rfl ?_
  refine o_move (v := .b (!r30)) (by decide) rfl ?_
  rcases Bool.eq_false_or_eq_true (!r30) with hb31 | hb31
  ·replace hM := ifT hM hb31
   refine o_guardN (j := 3) (e := (!r30)) (want := false) (by decide) rfl hb31 ?_
   refine o_guardN (j := 3) (e := (!r30)) (want := false) (by decide) rfl hb31 ?_
   refine o_guardN (j := 3) (e := (!r30)) (want := false) (by decide) rfl hb31 ?_
   refine o_pickT (v := .b true) (e := (!r30)) (by decide) rfl hb31 rfl ?_
   refine o_move (v := .b true) (by decide) rfl ?_
   refine o_guardN (j := 8) (e := true) (want := false) (by decide) rfl rfl ?_
   refine o_guardN (j := 8) (e := true) (want := false) (by decide) rfl rfl ?_
   refine o_guardN (j := 8) (e := true) (want := false) (by decide) rfl rfl ?_
   refine o_pickT (v := .b true) (e := true) (by decide) rfl rfl rfl ?_
   refine o_move (v := .b true) (by decide) rfl ?_
   refine o_guardN (j := 13) (e := true) (want := false) (by decide) rfl rfl ?_
   refine o_guardN (j := 13) (e := true) (want := false) (by decide) rfl rfl ?_
   refine o_guardN (j := 13) (e := true) (want := false) (by decide) rfl rfl ?_
   refine o_guardN (j := 13) (e := true) (want := false) (by decide) rfl rfl ?_
   refine o_pickT (v := .b true) (e := true) (by decide) rfl rfl rfl ?_
   refine o_move (v := .b true) (by decide) rfl ?_
   refine o_guardN (j := 19) (e := true) (want := false) (by decide) rfl rfl ?_
   refine o_guardN (j := 19) (e := true) (want := false) (by decide) rfl rfl ?_
   refine o_guardN (j := 19) (e := true) (want := false) (by decide) rfl rfl ?_
   refine o_guardN (j := 19) (e := true) (want := false) (by decide) rfl rfl ?_
   refine o_pickT (v := .b true) (e := true) (by decide) rfl rfl rfl ?_
   refine run_nil ?_
   exact w_goto true (.k (.k (.k (.k .nil)))) ⟨(hS.keep [] rfl).up (by omega), hM⟩
  ·replace hM := ifF hM hb31
   refine o_guardY (j := 3) (e := (!r30)) (want := false) rfl hb31 ?_
   refine o_move (v := .sl .no 1 (a1.map cI)) (by decide) rfl ?_
   refine o_guardY (j := 3) (e := (!r30)) (want := false) rfl hb31 ?_
   refine o_len (n := a1.length) (by decide) rfl (List.length_map _) ty_isl22 ?_
   refine o_guardY (j := 3) (e := (!r30)) (want := false) rfl hb31 ?_
   refine o_int (v := .b (decide ((a1.length : Int) > 10))) (by decide) rfl rfl rfl ?_
   refine o_pickF (v := .b (decide ((a1.length : Int) > 10))) (e := (!r30)) (by decide) rfl hb31 rfl ?_
   refine o_move (v := .b (decide ((a1.length : Int) > 10))) (by decide) rfl ?_
   rcases Bool.eq_false_or_eq_true (decide ((a1.length : Int) > 10)) with hb32 | hb32
   ·replace hM := ifT hM hb32
    refine o_guardN (j := 8) (e := (decide ((a1.length : Int) > 10))) (want := false) (by decide) rfl hb32 ?_
    refine o_guardN (j := 8) (e := (decide ((a1.length : Int) > 10))) (want := false) (by decide) rfl hb32 ?_
    refine o_guardN (j := 8) (e := (decide ((a1.length : Int) > 10))) (want := false) (by decide) rfl hb32 ?_
    refine o_pickT (v := .b true) (e := (decide ((a1.length : Int) > 10))) (by decide) rfl hb32 rfl ?_
    refine o_move (v := .b true) (by decide) rfl ?_
    refine o_guardN (j := 13) (e := true) (want := false) (by decide) rfl rfl ?_
    refine o_guardN (j := 13) (e := true) (want := false) (by decide) rfl rfl ?_
    refine o_guardN (j := 13) (e := true) (want := false) (by decide) rfl rfl ?_
    refine o_guardN (j := 13) (e := true) (want := false) (by decide) rfl rfl ?_
    refine o_pickT (v := .b true) (e := true) (by decide) rfl rfl rfl ?_
    refine o_move (v := .b true) (by decide) rfl ?_
    refine o_guardN (j := 19) (e := true) (want := false) (by decide) rfl rfl ?_
    refine o_guardN (j := 19) (e := true) (want := false) (by decide) rfl rfl ?_
    refine o_guardN (j := 19) (e := true) (want := false) (by decide) rfl rfl ?_
    refine o_guardN (j := 19) (e := true) (want := false) (by decide) rfl rfl ?_
    refine o_pickT (v := .b true) (e := true) (by decide) rfl rfl rfl ?_
    refine run_nil ?_
    exact w_goto true (.k (.k (.k (.k .nil)))) ⟨(hS.keep [] rfl).up (by omega), hM⟩
   ·replace hM := ifF hM hb32
    refine o_guardY (j := 8) (e := (decide ((a1.length : Int) > 10))) (want := false) rfl hb32 ?_
    refine o_move (v := .sl .no 1 (a2.map cI)) (by decide) rfl ?_
    refine o_guardY (j := 8) (e := (decide ((a1.length : Int) > 10))) (want := false) rfl hb32 ?_
    refine o_len (n := a2.length) (by decide) rfl (List.length_map _) ty_isl22 ?_
    refine o_guardY (j := 8) (e := (decide ((a1.length : Int) > 10))) (want := false) rfl hb32 ?_
    refine o_int (v := .b (decide ((a2.length : Int) > 10))) (by decide) rfl rfl rfl ?_
    refine o_pickF (v := .b (decide ((a2.length : Int) > 10))) (e := (decide ((a1.length : Int) > 10))) (by decide) rfl hb32 rfl ?_
    refine o_move (v := .b (decide ((a2.length : Int) > 10))) (by decide) rfl ?_
    rcases Bool.eq_false_or_eq_true (decide ((a2.length : Int) > 10)) with hb33 | hb33
    ·replace hM := ifT hM hb33
     refine o_guardN (j := 13) (e := (decide ((a2.length : Int) > 10))) (want := false) (by decide) rfl hb33 ?_
     refine o_guardN (j := 13) (e := (decide ((a2.length : Int) > 10))) (want := false) (by decide) rfl hb33 ?_
     refine o_guardN (j := 13) (e := (decide ((a2.length : Int) > 10))) (want := false) (by decide) rfl hb33 ?_
     refine o_guardN (j := 13) (e := (decide ((a2.length : Int) > 10))) (want := false) (by decide) rfl hb33 ?_
     refine o_pickT (v := .b true) (e := (decide ((a2.length : Int) > 10))) (by decide) rfl hb33 rfl ?_
     refine o_move (v := .b true) (by decide) rfl ?_
     refine o_guardN (j := 19) (e := true) (want := false) (by decide) rfl rfl ?_
     refine o_guardN (j := 19) (e := true) (want := false) (by decide) rfl rfl ?_
     refine o_guardN (j := 19) (e := true) (want := false) (by decide) rfl rfl ?_
     refine o_guardN (j := 19) (e := true) (want := false) (by decide) rfl rfl ?_
     refine o_pickT (v := .b true) (e := true) (by decide) rfl rfl rfl ?_
     refine run_nil ?_
     exact w_goto true (.k (.k (.k (.k .nil)))) ⟨(hS.keep [] rfl).up (by omega), hM⟩
    ·replace hM := ifF hM hb33
     refine o_guardY (j := 13) (e := (decide ((a2.length : Int) > 10))) (want := false) rfl hb33 ?_
     refine o_loadE (v := .agg [.i a0.Round, .sl .no 1 (a0.Notches.map cI), .sl .no 1 (a0.Coins.map cI)]) (by decide) rfl (part_agg ty_agg24 (Nat.le_of_ble_eq_true rfl) rfl) ?_
     refine o_guardY (j := 13) (e := (decide ((a2.length : Int) > 10))) (want := false) rfl hb33 ?_
     refine o_move (v := .sl .no 1 (a1.map cI)) (by decide) rfl ?_
     refine o_guardY (j := 13) (e := (decide ((a2.length : Int) > 10))) (want := false) rfl hb33 ?_
     obtain ⟨r34, hr34, hM⟩ := bindE hM
     refine o_call (bs := [.agg [.i a0.Round, .sl .no 1 (a0.Notches.map cI), .sl .no 1 (a0.Coins.map cI)], .sl .no 1 (a1.map cI), .i 0]) (by decide) rfl rfl ((W_ref01_AreKinds hr34).le (.k (.k (.k .nil)))) ?_
     refine o_guardY (j := 13) (e := (decide ((a2.length : Int) > 10))) (want := false) rfl hb33 ?_
     refine o_not (e := r34) (by decide) rfl ?_
     refine o_pickF (v := .b (!r34)) (e := (decide ((a2.length : Int) > 10))) (by decide) rfl hb33 rfl ?_
     refine o_move (v := .b (!r34)) (by decide) rfl ?_
     rcases Bool.eq_false_or_eq_true (!r34) with hb35 | hb35
     ·replace hM := ifT hM hb35
      refine o_guardN (j := 19) (e := (!r34)) (want := false) (by decide) rfl hb35 ?_
      refine o_guardN (j := 19) (e := (!r34)) (want := false) (by decide) rfl hb35 ?_
      refine o_guardN (j := 19) (e := (!r34)) (want := false) (by decide) rfl hb35 ?_
      refine o_guardN (j := 19) (e := (!r34)) (want := false) (by decide) rfl hb35 ?_
      refine o_pickT (v := .b true) (e := (!r34)) (by decide) rfl hb35 rfl ?_
      refine run_nil ?_
      exact w_goto true (.k (.k (.k (.k .nil)))) ⟨(hS.keep [] rfl).up (by omega), hM⟩
     ·replace hM := ifF hM hb35
      refine o_guardY (j := 19) (e := (!r34)) (want := false) rfl hb35 ?_
      refine o_loadE (v := .agg [.i a0.Round, .sl .no 1 (a0.Notches.map cI), .sl .no 1 (a0.Coins.map cI)]) (by decide) rfl (part_agg ty_agg24 (Nat.le_of_ble_eq_true rfl) rfl) ?_
      refine o_guardY (j := 19) (e := (!r34)) (want := false) rfl hb35 ?_
      refine o_move (v := .sl .no 1 (a2.map cI)) (by decide) rfl ?_
      refine o_guardY (j := 19) (e := (!r34)) (want := false) rfl hb35 ?_
      obtain ⟨r36, hr36, hM⟩ := bindE hM
      refine o_call (bs := [.agg [.i a0.Round, .sl .no 1 (a0.Notches.map cI), .sl .no 1 (a0.Coins.map cI)], .sl .no 1 (a2.map cI), .i 0]) (by decide) rfl rfl ((W_ref01_AreKinds hr36).le (.k (.k (.k .nil)))) ?_
      refine o_guardY (j := 19) (e := (!r34)) (want := false) rfl hb35 ?_
      refine o_not (e := r36) (by decide) rfl ?_
      refine o_pickF (v := .b (!r36)) (e := (!r34)) (by decide) rfl hb35 rfl ?_
      refine run_nil ?_
      exact w_goto (!r36) (.k (.k (.k (.k .nil)))) ⟨(hS.keep [] rfl).up (by omega), hM⟩
end Go.Proofs.Ytapcibbbmeomkaa
