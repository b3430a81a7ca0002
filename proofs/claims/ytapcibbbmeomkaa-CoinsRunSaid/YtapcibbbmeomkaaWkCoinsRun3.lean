/-
  The code returns what the functions say (printed by gen.py).
  Conditions: none.
-/
import Derived.Test.YtapcibbbmeomkaaWkCoinsRun2
import Derived.Test.YtapcibbbmeomkaaSh
set_option linter.all false
namespace Go.Proofs.Ytapcibbbmeomkaa
open Go Go.AM Go.Law
set_option linter.unusedVariables false
set_option maxRecDepth 4000
set_option maxHeartbeats 4000000
theorem W_ref01_Rising {n : Nat} {a0 : List Int} {a1 : Int} {a2 : Int} {r : Bool} (hM : ref01_Rising n a0 a1 a2 = some r) : PureSat Try.prog 73 [.sl .no 1 (a0.map cI), .i a1, .i a2] (.b r) := by
 refine pure_of_wp mixed Try.func73 rfl (by decide) Try.ntmps73 (by simp) ?pure fun H0 g hf => ?_
 case pure => exact .v _
 rw [frame0_of]
 change wpA _ _ _ _ (Fr.of [(0, .sl .no 1 (a0.map cI)), (1, .i a1), (2, .i a2)]) H0 g
 have hS := St.start hf
 refine r_seq ?_
 refine r_region (n := 1) rfl ?_
 refine o_assign (v := .b false) (by decide) rfl ?_
 refine run_nil ?_
 refine w_next [(0, .sl .no 1 (a0.map cI)), (1, .i a1), (2, .i a2)] (.k (.k (.k .nil))) ?_
 refine w_join (J := Unit) (fun j => []) (fun j H' g' => St (· < g) H0 [] H' g' ∧ ref01_Rising_j1 = some r) ?_ ?_
 ·rintro _ H g1 ⟨hS, hM⟩
  change wpA _ _ _ _ (Fr.of []) _ _
  replace hS : St (· < g) H0 [] H g1 := hS
  replace hM : ref01_Rising_j1 = some r := hM
  refine r_seq ?_
  refine r_region (n := 1) rfl ?_
  refine o_assign (v := .b true) (by decide) rfl ?_
  refine run_nil ?_
  refine w_next [(6, .b true)] (.k .nil) ?_
  refine r_ret ?_
  refine w_end (x := .b true) (f := fun r => .b r) (.inr rfl) ?_ (.refl _) (Option.some.inj hM) hS
  exact (res_one (res_tmp (x := .b true) rfl))
 ·refine r_seq ?_
  refine r_region (n := 1) rfl ?_
  refine o_assign (v := .i 0) (by decide) rfl ?_
  refine run_nil ?_
  refine w_next [(0, .sl .no 1 (a0.map cI)), (1, .i a1), (2, .i a2), (7, .i 0)] (.k (.k (.k (.k .nil)))) ?_
  refine r_block ?_
  refine w_loop (V := Int) (fun v => [(0, .sl .no 1 (a0.map cI)), (1, .i a1), (2, .i a2), (7, .i v)]) (fun v m2 H' g' => St (· < g) H0 [] H' g' ∧ ref01_Rising_l1 a0 a1 a2 m2 v = some r) (n := n) 0 (.k (.k (.k (.k .nil)))) ⟨(hS.keep [] rfl).up (by omega), hM⟩ ?_
  rintro v1 m2 H g2 ⟨hS, hM⟩
  obtain _ | m2 := m2
  ·exact nomatch (show none = some _ from hM)
  change wpA _ _ _ _ (Fr.of [(0, .sl .no 1 (a0.map cI)), (1, .i a1), (2, .i a2), (7, .i v1)]) _ _
  replace hS : St (· < g) H0 [] H g2 := hS
  replace hM : ref01_Rising_l1_b a0 a1 a2 (ref01_Rising_l1 a0 a1 a2 m2) v1 = some r := hM
  refine r_seq ?_
  refine r_seq ?_
  refine r_region (n := 4) rfl ?_
  refine o_move (v := .i v1) (by decide) rfl ?_
  refine o_move (v := .sl .no 1 (a0.map cI)) (by decide) rfl ?_
  refine o_len (n := a0.length) (by decide) rfl (List.length_map _) ty_isl22 ?_
  refine o_int (v := .b (decide (v1 < (a0.length : Int)))) (by decide) rfl rfl rfl ?_
  refine run_nil ?_
  refine w_next [(0, .sl .no 1 (a0.map cI)), (1, .i a1), (2, .i a2), (7, .i v1), (11, .b (decide (v1 < (a0.length : Int))))] (.k (.k (.k (.k (.k .nil))))) ?_
  rcases Bool.eq_false_or_eq_true (decide (v1 < (a0.length : Int))) with hb2 | hb2
  ·replace hM := ifT hM hb2
   refine w_condT (e := (decide (v1 < (a0.length : Int)))) rfl hb2 ?_
   refine r_skip ?_
   refine w_next [(0, .sl .no 1 (a0.map cI)), (1, .i a1), (2, .i a2), (7, .i v1)] (.k (.k (.k (.k .nil)))) ?_
   refine r_seq ?_
   refine r_block ?_
   refine w_join (J := Bool) (fun j => [(0, .sl .no 1 (a0.map cI)), (1, .i a1), (2, .i a2), (7, .i v1), (37, .b j)]) (fun j H' g' => St (· < g) H0 [] H' g' ∧ ref01_Rising_j2 (ref01_Rising_l1 a0 a1 a2 m2) v1 j = some r) ?_ ?_
   ·rintro v3 H g3 ⟨hS, hM⟩
    change wpA _ _ _ _ (Fr.of [(0, .sl .no 1 (a0.map cI)), (1, .i a1), (2, .i a2), (7, .i v1), (37, .b v3)]) _ _
    replace hS : St (· < g) H0 [] H g3 := hS
    replace hM : ref01_Rising_j2 (ref01_Rising_l1 a0 a1 a2 m2) v1 v3 = some r := hM
    rcases Bool.eq_false_or_eq_true v3 with hb4 | hb4
    ·replace hM := ifT hM hb4
     refine w_condT (e := v3) rfl hb4 ?_
     refine r_seq ?_
     refine r_region (n := 1) rfl ?_
     refine o_assign (v := .b false) (by decide) rfl ?_
     refine run_nil ?_
     refine w_next [(6, .b false)] (.k .nil) ?_
     refine r_ret ?_
     refine r_blk_ret ?_
     refine r_then_ret ?_
     refine w_round_ret ?_
     refine r_blk_ret ?_
     refine w_goto_ret ?_
     refine w_end (x := .b false) (f := fun r => .b r) (.inr rfl) ?_ (.refl _) (Option.some.inj hM) hS
     exact (res_one (res_tmp (x := .b false) rfl))
    ·replace hM := ifF hM hb4
     refine w_condF (e := v3) rfl hb4 ?_
     refine r_skip ?_
     refine r_blk_normal ?_
     refine w_next [(0, .sl .no 1 (a0.map cI)), (1, .i a1), (2, .i a2), (7, .i v1)] (.k (.k (.k (.k .nil)))) ?_
     refine r_region (n := 3) rfl ?_
     refine o_move (v := .i v1) (by decide) rfl ?_
     refine o_int (v := .i (w64 (v1 + 1))) (by decide) rfl rfl rfl ?_
     refine o_assign (v := .i (w64 (v1 + 1))) (by decide) rfl ?_
     refine run_nil ?_
     exact w_round (w64 (v1 + 1)) (Nat.lt_succ_self _) (.k (.k (.k (.k .nil)))) ⟨(hS.keep [] rfl).up (by omega), hM⟩
   ·have hS0 := hS
    refine r_draw (n := 24) rfl (by kernel_rfl) ?_
    refine o_move (v := .sl .no 1 (a0.map cI)) (by decide) rfl ?_
    refine o_move (v := .i v1) (by decide) rfl ?_
    obtain ⟨x5, hx5, hM⟩ := bindE hM
    refine o_index (xs := a0) (f := cI) (z := v1) (u := x5) (by decide) rfl rfl ty_es22 hx5 ?_
    refine o_loadE (v := .i x5) (by decide) rfl (part_one ty_agg3 ty_sc3 rfl) ?_
    refine o_move (v := .i a1) (by decide) rfl ?_
    refine o_move (v := .i a2) (by decide) rfl ?_
    obtain ⟨r6, hr6, hM⟩ := bindE hM
    refine o_call (bs := [.i x5, .i a1, .i a2]) (by decide) rfl rfl ((W_ref01_Within hr6).le (.k (.k (.k .nil)))) ?_
    refine o_not (e := r6) (by decide) rfl ?_
    refine o_move (v := .b (!r6)) (by decide) rfl ?_
    rcases Bool.eq_false_or_eq_true (!r6) with hb7 | hb7
    ·replace hM := ifT hM hb7
     refine o_guardN (j := 8) (e := (!r6)) (want := false) (by decide) rfl hb7 ?_
     refine o_guardN (j := 8) (e := (!r6)) (want := false) (by decide) rfl hb7 ?_
     refine o_guardN (j := 8) (e := (!r6)) (want := false) (by decide) rfl hb7 ?_
     refine o_guardU (j := 11) (by decide) rfl ?_
     refine o_guardU (j := 11) (by decide) rfl ?_
     refine o_guardU (j := 11) (by decide) rfl ?_
     refine o_guardU (j := 11) (by decide) rfl ?_
     refine o_guardU (j := 11) (by decide) rfl ?_
     refine o_guardU (j := 11) (by decide) rfl ?_
     refine o_guardU (j := 11) (by decide) rfl ?_
     refine o_guardU (j := 11) (by decide) rfl ?_
     refine o_guardU (j := 11) (by decide) rfl ?_
     refine o_guardU (j := 11) (by decide) rfl ?_
     refine o_guardN (j := 8) (e := (!r6)) (want := false) (by decide) rfl hb7 ?_
     refine o_pickT (v := .b true) (e := (!r6)) (by decide) rfl hb7 rfl ?_
     refine run_nil ?_
     exact w_goto true (.k (.k (.k (.k (.k .nil))))) ⟨(hS.keep [] rfl).up (by omega), hM⟩
    ·replace hM := ifF hM hb7
     refine o_guardY (j := 8) (e := (!r6)) (want := false) rfl hb7 ?_
     refine o_move (v := .i v1) (by decide) rfl ?_
     refine o_guardY (j := 8) (e := (!r6)) (want := false) rfl hb7 ?_
     refine o_int (v := .b (decide (v1 > 0))) (by decide) rfl rfl rfl ?_
     refine o_guardY (j := 8) (e := (!r6)) (want := false) rfl hb7 ?_
     refine o_move (v := .b (decide (v1 > 0))) (by decide) rfl ?_
     rcases Bool.eq_false_or_eq_true (decide (v1 > 0)) with hb8 | hb8
     ·replace hM := ifT hM hb8
      refine o_guardY (j := 11) (e := (decide (v1 > 0))) (want := true) rfl hb8 ?_
      refine o_move (v := .sl .no 1 (a0.map cI)) (by decide) rfl ?_
      refine o_guardY (j := 11) (e := (decide (v1 > 0))) (want := true) rfl hb8 ?_
      refine o_move (v := .i v1) (by decide) rfl ?_
      refine o_guardY (j := 11) (e := (decide (v1 > 0))) (want := true) rfl hb8 ?_
      obtain ⟨x9, hx9, hM⟩ := bindE hM
      refine o_index (xs := a0) (f := cI) (z := v1) (u := x9) (by decide) rfl rfl ty_es22 hx9 ?_
      refine o_guardY (j := 11) (e := (decide (v1 > 0))) (want := true) rfl hb8 ?_
      refine o_loadE (v := .i x9) (by decide) rfl (part_one ty_agg3 ty_sc3 rfl) ?_
      refine o_guardY (j := 11) (e := (decide (v1 > 0))) (want := true) rfl hb8 ?_
      refine o_move (v := .sl .no 1 (a0.map cI)) (by decide) rfl ?_
      refine o_guardY (j := 11) (e := (decide (v1 > 0))) (want := true) rfl hb8 ?_
      refine o_move (v := .i v1) (by decide) rfl ?_
      refine o_guardY (j := 11) (e := (decide (v1 > 0))) (want := true) rfl hb8 ?_
      refine o_int (v := .i (w64 (v1 - 1))) (by decide) rfl rfl rfl ?_
      refine o_guardY (j := 11) (e := (decide (v1 > 0))) (want := true) rfl hb8 ?_
      obtain ⟨x10, hx10, hM⟩ := bindE hM
      refine o_index (xs := a0) (f := cI) (z := (w64 (v1 - 1))) (u := x10) (by decide) rfl rfl ty_es22 hx10 ?_
      refine o_guardY (j := 11) (e := (decide (v1 > 0))) (want := true) rfl hb8 ?_
      refine o_loadE (v := .i x10) (by decide) rfl (part_one ty_agg3 ty_sc3 rfl) ?_
      refine o_guardY (j := 11) (e := (decide (v1 > 0))) (want := true) rfl hb8 ?_
      refine o_int (v := .b (decide (x9 ≤ x10))) (by decide) rfl rfl rfl ?_
      refine o_guardY (j := 8) (e := (!r6)) (want := false) rfl hb7 ?_
      refine o_pickT (v := .b (decide (x9 ≤ x10))) (e := (decide (v1 > 0))) (by decide) rfl hb8 rfl ?_
      refine o_pickF (v := .b (decide (x9 ≤ x10))) (e := (!r6)) (by decide) rfl hb7 rfl ?_
      refine run_nil ?_
      exact w_goto (decide (x9 ≤ x10)) (.k (.k (.k (.k (.k .nil))))) ⟨(hS.keep [] rfl).up (by omega), hM⟩
     ·replace hM := ifF hM hb8
      refine o_guardN (j := 11) (e := (decide (v1 > 0))) (want := true) (by decide) rfl hb8 ?_
      refine o_guardN (j := 11) (e := (decide (v1 > 0))) (want := true) (by decide) rfl hb8 ?_
      refine o_guardN (j := 11) (e := (decide (v1 > 0))) (want := true) (by decide) rfl hb8 ?_
      refine o_guardN (j := 11) (e := (decide (v1 > 0))) (want := true) (by decide) rfl hb8 ?_
      refine o_guardN (j := 11) (e := (decide (v1 > 0))) (want := true) (by decide) rfl hb8 ?_
      refine o_guardN (j := 11) (e := (decide (v1 > 0))) (want := true) (by decide) rfl hb8 ?_
      refine o_guardN (j := 11) (e := (decide (v1 > 0))) (want := true) (by decide) rfl hb8 ?_
      refine o_guardN (j := 11) (e := (decide (v1 > 0))) (want := true) (by decide) rfl hb8 ?_
      refine o_guardN (j := 11) (e := (decide (v1 > 0))) (want := true) (by decide) rfl hb8 ?_
      refine o_guardN (j := 11) (e := (decide (v1 > 0))) (want := true) (by decide) rfl hb8 ?_
      refine o_guardY (j := 8) (e := (!r6)) (want := false) rfl hb7 ?_
      refine o_pickF (v := .b false) (e := (decide (v1 > 0))) (by decide) rfl hb8 rfl ?_
      refine o_pickF (v := .b false) (e := (!r6)) (by decide) rfl hb7 rfl ?_
      refine run_nil ?_
      exact w_goto false (.k (.k (.k (.k (.k .nil))))) ⟨(hS.keep [] rfl).up (by omega), hM⟩
  ·replace hM := ifF hM hb2
   refine w_condF (e := (decide (v1 < (a0.length : Int)))) rfl hb2 ?_
   refine r_exit ?_
   refine r_then_exit ?_
   refine w_round_exit ?_
   refine r_blk_exit ?_
   exact w_goto () .nil ⟨(hS.keep [] rfl).up (by omega), hM⟩
theorem W_ref01_Check {n : Nat} {a0 : Wheel} {r : Int} (hM : ref01_Check n a0 = some r) : PureSat Try.prog 39 [.agg [.i a0.Round, .sl .no 1 (a0.Notches.map cI), .sl .no 1 (a0.Coins.map cI)]] (.i r) := by
 refine pure_of_wp mixed Try.func39 rfl (by decide) Try.ntmps39 (by simp) ?pure fun H0 g hf => ?_
 case pure => exact .v _
 rw [frame0_of]
 change wpA _ _ _ _ (Fr.of [(0, .agg [.i a0.Round, .sl .no 1 (a0.Notches.map cI), .sl .no 1 (a0.Coins.map cI)])]) H0 g
 have hS := St.start hf
 refine r_seq ?_
 refine r_region (n := 2) rfl ?_
 refine o_box (v := .agg [.i a0.Round, .sl .no 1 (a0.Notches.map cI), .sl .no 1 (a0.Coins.map cI)]) (cs := [.i a0.Round, .sl .no 1 (a0.Notches.map cI), .sl .no 1 (a0.Coins.map cI)]) hS (by decide) rfl rfl (by omega) fun H hS => ?_
 refine o_assign (v := .i 0) (by decide) rfl ?_
 refine run_nil ?_
 refine w_iceE (L' := []) 0 1 hS rfl rfl rfl fun H hS => ?_
 refine w_next [(1, .ep [.i a0.Round, .sl .no 1 (a0.Notches.map cI), .sl .no 1 (a0.Coins.map cI)])] (.k .nil) ?_
 refine r_seq ?_
 refine w_join (J := Bool) (fun j => [(32, .b j)]) (fun j H' g' => St (· < g) H0 [] H' g' ∧ ref01_Check_j1 j = some r) ?_ ?_
 ·rintro v1 H g1 ⟨hS, hM⟩
  change wpA _ _ _ _ (Fr.of [(32, .b v1)]) _ _
  replace hS : St (· < g) H0 [] H g1 := hS
  replace hM : ref01_Check_j1 v1 = some r := hM
  rcases Bool.eq_false_or_eq_true v1 with hb2 | hb2
  ·replace hM := ifT hM hb2
   refine w_condT (e := v1) rfl hb2 ?_
   refine r_seq ?_
   refine r_region (n := 1) rfl ?_
   refine o_assign (v := .i 10) (by decide) rfl ?_
   refine run_nil ?_
   refine w_next [(2, .i 10)] (.k .nil) ?_
   refine r_ret ?_
   refine r_then_ret ?_
   refine w_end (x := .i 10) (f := fun r => .i r) (.inr rfl) ?_ (.refl _) (Option.some.inj hM) hS
   exact (res_one (res_tmp (x := .i 10) rfl))
  ·replace hM := ifF hM hb2
   refine w_condF (e := v1) rfl hb2 ?_
   refine r_skip ?_
   refine w_next [] .nil ?_
   refine r_seq ?_
   refine r_region (n := 1) rfl ?_
   refine o_assign (v := .i 0) (by decide) rfl ?_
   refine run_nil ?_
   refine w_next [(2, .i 0)] (.k .nil) ?_
   refine r_ret ?_
   refine w_end (x := .i 0) (f := fun r => .i r) (.inr rfl) ?_ (.refl _) (Option.some.inj hM) hS
   exact (res_one (res_tmp (x := .i 0) rfl))
 ·refine r_region (n := 30) rfl ?_
  refine o_fieldE (cs := [.i a0.Round, .sl .no 1 (a0.Notches.map cI), .sl .no 1 (a0.Coins.map cI)]) (by decide) ty_fo24_0 rfl ?_
  refine o_loadE (v := .i a0.Round) (by decide) rfl (part_one ty_agg3 ty_sc3 rfl) ?_
  obtain ⟨r3, hr3, hM⟩ := bindE hM
  refine o_call (bs := [.i a0.Round, .i 1, .i 200]) (by decide) rfl rfl ((W_ref01_Within hr3).le (.k (.k (.k .nil)))) ?_
  refine o_not (e := r3) (by decide) rfl ?_
  refine o_move (v := .b (!r3)) (by decide) rfl ?_
  rcases Bool.eq_false_or_eq_true (!r3) with hb4 | hb4
  ·replace hM := ifT hM hb4
   refine o_guardN (j := 4) (e := (!r3)) (want := false) (by decide) rfl hb4 ?_
   refine o_guardN (j := 4) (e := (!r3)) (want := false) (by decide) rfl hb4 ?_
   refine o_guardN (j := 4) (e := (!r3)) (want := false) (by decide) rfl hb4 ?_
   refine o_guardN (j := 4) (e := (!r3)) (want := false) (by decide) rfl hb4 ?_
   refine o_pickT (v := .b true) (e := (!r3)) (by decide) rfl hb4 rfl ?_
   refine o_move (v := .b true) (by decide) rfl ?_
   refine o_guardN (j := 10) (e := true) (want := false) (by decide) rfl rfl ?_
   refine o_guardN (j := 10) (e := true) (want := false) (by decide) rfl rfl ?_
   refine o_guardN (j := 10) (e := true) (want := false) (by decide) rfl rfl ?_
   refine o_guardN (j := 10) (e := true) (want := false) (by decide) rfl rfl ?_
   refine o_guardN (j := 10) (e := true) (want := false) (by decide) rfl rfl ?_
   refine o_guardN (j := 10) (e := true) (want := false) (by decide) rfl rfl ?_
   refine o_pickT (v := .b true) (e := true) (by decide) rfl rfl rfl ?_
   refine o_move (v := .b true) (by decide) rfl ?_
   refine o_guardN (j := 18) (e := true) (want := false) (by decide) rfl rfl ?_
   refine o_guardN (j := 18) (e := true) (want := false) (by decide) rfl rfl ?_
   refine o_guardN (j := 18) (e := true) (want := false) (by decide) rfl rfl ?_
   refine o_guardN (j := 18) (e := true) (want := false) (by decide) rfl rfl ?_
   refine o_pickT (v := .b true) (e := true) (by decide) rfl rfl rfl ?_
   refine o_move (v := .b true) (by decide) rfl ?_
   refine o_guardN (j := 24) (e := true) (want := false) (by decide) rfl rfl ?_
   refine o_guardN (j := 24) (e := true) (want := false) (by decide) rfl rfl ?_
   refine o_guardN (j := 24) (e := true) (want := false) (by decide) rfl rfl ?_
   refine o_guardN (j := 24) (e := true) (want := false) (by decide) rfl rfl ?_
   refine o_pickT (v := .b true) (e := true) (by decide) rfl rfl rfl ?_
   refine run_nil ?_
   exact w_goto true (.k .nil) ⟨(hS.keep [] rfl).up (by omega), hM⟩
  ·replace hM := ifF hM hb4
   refine o_guardY (j := 4) (e := (!r3)) (want := false) rfl hb4 ?_
   refine o_fieldE (cs := [.i a0.Round, .sl .no 1 (a0.Notches.map cI), .sl .no 1 (a0.Coins.map cI)]) (by decide) ty_fo24_1 rfl ?_
   refine o_guardY (j := 4) (e := (!r3)) (want := false) rfl hb4 ?_
   refine o_loadE (v := .sl .no 1 (a0.Notches.map cI)) (by decide) rfl (part_one ty_agg22 ty_sc22 rfl) ?_
   refine o_guardY (j := 4) (e := (!r3)) (want := false) rfl hb4 ?_
   refine o_len (n := a0.Notches.length) (by decide) rfl (List.length_map _) ty_isl22 ?_
   refine o_guardY (j := 4) (e := (!r3)) (want := false) rfl hb4 ?_
   refine o_int (v := .b (decide ((a0.Notches.length : Int) > 12))) (by decide) rfl rfl rfl ?_
   refine o_pickF (v := .b (decide ((a0.Notches.length : Int) > 12))) (e := (!r3)) (by decide) rfl hb4 rfl ?_
   refine o_move (v := .b (decide ((a0.Notches.length : Int) > 12))) (by decide) rfl ?_
   rcases Bool.eq_false_or_eq_true (decide ((a0.Notches.length : Int) > 12)) with hb5 | hb5
   ·replace hM := ifT hM hb5
    refine o_guardN (j := 10) (e := (decide ((a0.Notches.length : Int) > 12))) (want := false) (by decide) rfl hb5 ?_
    refine o_guardN (j := 10) (e := (decide ((a0.Notches.length : Int) > 12))) (want := false) (by decide) rfl hb5 ?_
    refine o_guardN (j := 10) (e := (decide ((a0.Notches.length : Int) > 12))) (want := false) (by decide) rfl hb5 ?_
    refine o_guardN (j := 10) (e := (decide ((a0.Notches.length : Int) > 12))) (want := false) (by decide) rfl hb5 ?_
    refine o_guardN (j := 10) (e := (decide ((a0.Notches.length : Int) > 12))) (want := false) (by decide) rfl hb5 ?_
    refine o_guardN (j := 10) (e := (decide ((a0.Notches.length : Int) > 12))) (want := false) (by decide) rfl hb5 ?_
    refine o_pickT (v := .b true) (e := (decide ((a0.Notches.length : Int) > 12))) (by decide) rfl hb5 rfl ?_
    refine o_move (v := .b true) (by decide) rfl ?_
    refine o_guardN (j := 18) (e := true) (want := false) (by decide) rfl rfl ?_
    refine o_guardN (j := 18) (e := true) (want := false) (by decide) rfl rfl ?_
    refine o_guardN (j := 18) (e := true) (want := false) (by decide) rfl rfl ?_
    refine o_guardN (j := 18) (e := true) (want := false) (by decide) rfl rfl ?_
    refine o_pickT (v := .b true) (e := true) (by decide) rfl rfl rfl ?_
    refine o_move (v := .b true) (by decide) rfl ?_
    refine o_guardN (j := 24) (e := true) (want := false) (by decide) rfl rfl ?_
    refine o_guardN (j := 24) (e := true) (want := false) (by decide) rfl rfl ?_
    refine o_guardN (j := 24) (e := true) (want := false) (by decide) rfl rfl ?_
    refine o_guardN (j := 24) (e := true) (want := false) (by decide) rfl rfl ?_
    refine o_pickT (v := .b true) (e := true) (by decide) rfl rfl rfl ?_
    refine run_nil ?_
    exact w_goto true (.k .nil) ⟨(hS.keep [] rfl).up (by omega), hM⟩
   ·replace hM := ifF hM hb5
    refine o_guardY (j := 10) (e := (decide ((a0.Notches.length : Int) > 12))) (want := false) rfl hb5 ?_
    refine o_fieldE (cs := [.i a0.Round, .sl .no 1 (a0.Notches.map cI), .sl .no 1 (a0.Coins.map cI)]) (by decide) ty_fo24_1 rfl ?_
    refine o_guardY (j := 10) (e := (decide ((a0.Notches.length : Int) > 12))) (want := false) rfl hb5 ?_
    refine o_loadE (v := .sl .no 1 (a0.Notches.map cI)) (by decide) rfl (part_one ty_agg22 ty_sc22 rfl) ?_
    refine o_guardY (j := 10) (e := (decide ((a0.Notches.length : Int) > 12))) (want := false) rfl hb5 ?_
    refine o_fieldE (cs := [.i a0.Round, .sl .no 1 (a0.Notches.map cI), .sl .no 1 (a0.Coins.map cI)]) (by decide) ty_fo24_0 rfl ?_
    refine o_guardY (j := 10) (e := (decide ((a0.Notches.length : Int) > 12))) (want := false) rfl hb5 ?_
    refine o_loadE (v := .i a0.Round) (by decide) rfl (part_one ty_agg3 ty_sc3 rfl) ?_
    refine o_guardY (j := 10) (e := (decide ((a0.Notches.length : Int) > 12))) (want := false) rfl hb5 ?_
    obtain ⟨r6, hr6, hM⟩ := bindE hM
    refine o_call (bs := [.sl .no 1 (a0.Notches.map cI), .i 1, .i a0.Round]) (by decide) rfl rfl ((W_ref01_Rising hr6).le (.k (.k (.k .nil)))) ?_
    refine o_guardY (j := 10) (e := (decide ((a0.Notches.length : Int) > 12))) (want := false) rfl hb5 ?_
    refine o_not (e := r6) (by decide) rfl ?_
    refine o_pickF (v := .b (!r6)) (e := (decide ((a0.Notches.length : Int) > 12))) (by decide) rfl hb5 rfl ?_
    refine o_move (v := .b (!r6)) (by decide) rfl ?_
    rcases Bool.eq_false_or_eq_true (!r6) with hb7 | hb7
    ·replace hM := ifT hM hb7
     refine o_guardN (j := 18) (e := (!r6)) (want := false) (by decide) rfl hb7 ?_
     refine o_guardN (j := 18) (e := (!r6)) (want := false) (by decide) rfl hb7 ?_
     refine o_guardN (j := 18) (e := (!r6)) (want := false) (by decide) rfl hb7 ?_
     refine o_guardN (j := 18) (e := (!r6)) (want := false) (by decide) rfl hb7 ?_
     refine o_pickT (v := .b true) (e := (!r6)) (by decide) rfl hb7 rfl ?_
     refine o_move (v := .b true) (by decide) rfl ?_
     refine o_guardN (j := 24) (e := true) (want := false) (by decide) rfl rfl ?_
     refine o_guardN (j := 24) (e := true) (want := false) (by decide) rfl rfl ?_
     refine o_guardN (j := 24) (e := true) (want := false) (by decide) rfl rfl ?_
     refine o_guardN (j := 24) (e := true) (want := false) (by decide) rfl rfl ?_
     refine o_pickT (v := .b true) (e := true) (by decide) rfl rfl rfl ?_
     refine run_nil ?_
     exact w_goto true (.k .nil) ⟨(hS.keep [] rfl).up (by omega), hM⟩
    ·replace hM := ifF hM hb7
     refine o_guardY (j := 18) (e := (!r6)) (want := false) rfl hb7 ?_
     refine o_fieldE (cs := [.i a0.Round, .sl .no 1 (a0.Notches.map cI), .sl .no 1 (a0.Coins.map cI)]) (by decide) ty_fo24_2 rfl ?_
     refine o_guardY (j := 18) (e := (!r6)) (want := false) rfl hb7 ?_
     refine o_loadE (v := .sl .no 1 (a0.Coins.map cI)) (by decide) rfl (part_one ty_agg22 ty_sc22 rfl) ?_
     refine o_guardY (j := 18) (e := (!r6)) (want := false) rfl hb7 ?_
     refine o_len (n := a0.Coins.length) (by decide) rfl (List.length_map _) ty_isl22 ?_
     refine o_guardY (j := 18) (e := (!r6)) (want := false) rfl hb7 ?_
     refine o_int (v := .b (decide ((a0.Coins.length : Int) > 4))) (by decide) rfl rfl rfl ?_
     refine o_pickF (v := .b (decide ((a0.Coins.length : Int) > 4))) (e := (!r6)) (by decide) rfl hb7 rfl ?_
     refine o_move (v := .b (decide ((a0.Coins.length : Int) > 4))) (by decide) rfl ?_
     rcases Bool.eq_false_or_eq_true (decide ((a0.Coins.length : Int) > 4)) with hb8 | hb8
     ·replace hM := ifT hM hb8
      refine o_guardN (j := 24) (e := (decide ((a0.Coins.length : Int) > 4))) (want := false) (by decide) rfl hb8 ?_
      refine o_guardN (j := 24) (e := (decide ((a0.Coins.length : Int) > 4))) (want := false) (by decide) rfl hb8 ?_
      refine o_guardN (j := 24) (e := (decide ((a0.Coins.length : Int) > 4))) (want := false) (by decide) rfl hb8 ?_
      refine o_guardN (j := 24) (e := (decide ((a0.Coins.length : Int) > 4))) (want := false) (by decide) rfl hb8 ?_
      refine o_pickT (v := .b true) (e := (decide ((a0.Coins.length : Int) > 4))) (by decide) rfl hb8 rfl ?_
      refine run_nil ?_
      exact w_goto true (.k .nil) ⟨(hS.keep [] rfl).up (by omega), hM⟩
     ·replace hM := ifF hM hb8
      refine o_guardY (j := 24) (e := (decide ((a0.Coins.length : Int) > 4))) (want := false) rfl hb8 ?_
      refine o_fieldE (cs := [.i a0.Round, .sl .no 1 (a0.Notches.map cI), .sl .no 1 (a0.Coins.map cI)]) (by decide) ty_fo24_2 rfl ?_
      refine o_guardY (j := 24) (e := (decide ((a0.Coins.length : Int) > 4))) (want := false) rfl hb8 ?_
      refine o_loadE (v := .sl .no 1 (a0.Coins.map cI)) (by decide) rfl (part_one ty_agg22 ty_sc22 rfl) ?_
      refine o_guardY (j := 24) (e := (decide ((a0.Coins.length : Int) > 4))) (want := false) rfl hb8 ?_
      obtain ⟨r9, hr9, hM⟩ := bindE hM
      refine o_call (bs := [.sl .no 1 (a0.Coins.map cI), .i 1, .i 100]) (by decide) rfl rfl ((W_ref01_Rising hr9).le (.k (.k (.k .nil)))) ?_
      refine o_guardY (j := 24) (e := (decide ((a0.Coins.length : Int) > 4))) (want := false) rfl hb8 ?_
      refine o_not (e := r9) (by decide) rfl ?_
      refine o_pickF (v := .b (!r9)) (e := (decide ((a0.Coins.length : Int) > 4))) (by decide) rfl hb8 rfl ?_
      refine run_nil ?_
      exact w_goto (!r9) (.k .nil) ⟨(hS.keep [] rfl).up (by omega), hM⟩
theorem W_ref01_In {n : Nat} {a0 : List Int} {a1 : Int} {r : Bool} (hM : ref01_In n a0 a1 = some r) : PureSat Try.prog 27 [.sl .no 1 (a0.map cI), .i a1] (.b r) := by
 refine pure_of_wp mixed Try.func27 rfl (by decide) Try.ntmps27 (by simp) ?pure fun H0 g hf => ?_
 case pure => exact .v _
 rw [frame0_of]
 change wpA _ _ _ _ (Fr.of [(0, .sl .no 1 (a0.map cI)), (1, .i a1)]) H0 g
 have hS := St.start hf
 refine r_seq ?_
 refine r_region (n := 1) rfl ?_
 refine o_assign (v := .b false) (by decide) rfl ?_
 refine run_nil ?_
 refine w_next [(0, .sl .no 1 (a0.map cI)), (1, .i a1)] (.k (.k .nil)) ?_
 refine w_join (J := Unit) (fun j => []) (fun j H' g' => St (· < g) H0 [] H' g' ∧ ref01_In_j1 = some r) ?_ ?_
 ·rintro _ H g1 ⟨hS, hM⟩
  change wpA _ _ _ _ (Fr.of []) _ _
  replace hS : St (· < g) H0 [] H g1 := hS
  replace hM : ref01_In_j1 = some r := hM
  refine r_seq ?_
  refine r_region (n := 1) rfl ?_
  refine o_assign (v := .b false) (by decide) rfl ?_
  refine run_nil ?_
  refine w_next [(4, .b false)] (.k .nil) ?_
  refine r_ret ?_
  refine w_end (x := .b false) (f := fun r => .b r) (.inr rfl) ?_ (.refl _) (Option.some.inj hM) hS
  exact (res_one (res_tmp (x := .b false) rfl))
 ·refine r_seq ?_
  refine r_region (n := 1) rfl ?_
  refine o_assign (v := .i 0) (by decide) rfl ?_
  refine run_nil ?_
  refine w_next [(0, .sl .no 1 (a0.map cI)), (1, .i a1), (5, .i 0)] (.k (.k (.k .nil))) ?_
  refine r_block ?_
  refine w_loop (V := Int) (fun v => [(0, .sl .no 1 (a0.map cI)), (1, .i a1), (5, .i v)]) (fun v m2 H' g' => St (· < g) H0 [] H' g' ∧ ref01_In_l1 a0 a1 m2 v = some r) (n := n) 0 (.k (.k (.k .nil))) ⟨(hS.keep [] rfl).up (by omega), hM⟩ ?_
  rintro v1 m2 H g2 ⟨hS, hM⟩
  obtain _ | m2 := m2
  ·exact nomatch (show none = some _ from hM)
  change wpA _ _ _ _ (Fr.of [(0, .sl .no 1 (a0.map cI)), (1, .i a1), (5, .i v1)]) _ _
  replace hS : St (· < g) H0 [] H g2 := hS
  replace hM : ref01_In_l1_b a0 a1 (ref01_In_l1 a0 a1 m2) v1 = some r := hM
  refine r_seq ?_
  refine r_seq ?_
  refine r_region (n := 4) rfl ?_
  refine o_move (v := .i v1) (by decide) rfl ?_
  refine o_move (v := .sl .no 1 (a0.map cI)) (by decide) rfl ?_
  refine o_len (n := a0.length) (by decide) rfl (List.length_map _) ty_isl22 ?_
  refine o_int (v := .b (decide (v1 < (a0.length : Int)))) (by decide) rfl rfl rfl ?_
  refine run_nil ?_
  refine w_next [(0, .sl .no 1 (a0.map cI)), (1, .i a1), (5, .i v1), (9, .b (decide (v1 < (a0.length : Int))))] (.k (.k (.k (.k .nil)))) ?_
  rcases Bool.eq_false_or_eq_true (decide (v1 < (a0.length : Int))) with hb2 | hb2
  ·replace hM := ifT hM hb2
   refine w_condT (e := (decide (v1 < (a0.length : Int)))) rfl hb2 ?_
   refine r_skip ?_
   refine w_next [(0, .sl .no 1 (a0.map cI)), (1, .i a1), (5, .i v1)] (.k (.k (.k .nil))) ?_
   refine r_seq ?_
   refine r_block ?_
   refine r_seq ?_
   refine r_region (n := 6) rfl ?_
   refine o_move (v := .sl .no 1 (a0.map cI)) (by decide) rfl ?_
   refine o_move (v := .i v1) (by decide) rfl ?_
   obtain ⟨x3, hx3, hM⟩ := bindE hM
   refine o_index (xs := a0) (f := cI) (z := v1) (u := x3) (by decide) rfl rfl ty_es22 hx3 ?_
   refine o_loadE (v := .i x3) (by decide) rfl (part_one ty_agg3 ty_sc3 rfl) ?_
   refine o_move (v := .i a1) (by decide) rfl ?_
   refine o_int (v := .b (x3 == a1)) (by decide) rfl rfl rfl ?_
   refine run_nil ?_
   refine w_next [(0, .sl .no 1 (a0.map cI)), (1, .i a1), (5, .i v1), (17, .b (x3 == a1))] (.k (.k (.k (.k .nil)))) ?_
   rcases Bool.eq_false_or_eq_true (x3 == a1) with hb4 | hb4
   ·replace hM := ifT hM hb4
    refine w_condT (e := (x3 == a1)) rfl hb4 ?_
    refine r_seq ?_
    refine r_region (n := 1) rfl ?_
    refine o_assign (v := .b true) (by decide) rfl ?_
    refine run_nil ?_
    refine w_next [(4, .b true)] (.k .nil) ?_
    refine r_ret ?_
    refine r_blk_ret ?_
    refine r_then_ret ?_
    refine w_round_ret ?_
    refine r_blk_ret ?_
    refine w_goto_ret ?_
    refine w_end (x := .b true) (f := fun r => .b r) (.inr rfl) ?_ (.refl _) (Option.some.inj hM) hS
    exact (res_one (res_tmp (x := .b true) rfl))
   ·replace hM := ifF hM hb4
    refine w_condF (e := (x3 == a1)) rfl hb4 ?_
    refine r_skip ?_
    refine r_blk_normal ?_
    refine w_next [(0, .sl .no 1 (a0.map cI)), (1, .i a1), (5, .i v1)] (.k (.k (.k .nil))) ?_
    refine r_region (n := 3) rfl ?_
    refine o_move (v := .i v1) (by decide) rfl ?_
    refine o_int (v := .i (w64 (v1 + 1))) (by decide) rfl rfl rfl ?_
    refine o_assign (v := .i (w64 (v1 + 1))) (by decide) rfl ?_
    refine run_nil ?_
    exact w_round (w64 (v1 + 1)) (Nat.lt_succ_self _) (.k (.k (.k .nil))) ⟨(hS.keep [] rfl).up (by omega), hM⟩
  ·replace hM := ifF hM hb2
   refine w_condF (e := (decide (v1 < (a0.length : Int)))) rfl hb2 ?_
   refine r_exit ?_
   refine r_then_exit ?_
   refine w_round_exit ?_
   refine r_blk_exit ?_
   exact w_goto () .nil ⟨(hS.keep [] rfl).up (by omega), hM⟩
theorem W_ref01_Put {n : Nat} {a0 : Wheel} {a1 : Int} {a2 : Int} {r : Int × Int} (hM : ref01_Put n a0 a1 a2 = some r) : PureSat Try.prog 63 [.agg [.i a0.Round, .sl .no 1 (a0.Notches.map cI), .sl .no 1 (a0.Coins.map cI)], .i a1, .i a2] (.tup [.i r.1, .i r.2]) := by
 refine pure_of_wp mixed Try.func63 rfl (by decide) Try.ntmps63 (by simp) ?pure fun H0 g hf => ?_
 case pure => exact .tup _ (pl_cons (.v _) (pl_cons (.v _) pl_nil))
 rw [frame0_of]
 change wpA _ _ _ _ (Fr.of [(0, .agg [.i a0.Round, .sl .no 1 (a0.Notches.map cI), .sl .no 1 (a0.Coins.map cI)]), (1, .i a1), (2, .i a2)]) H0 g
 have hS := St.start hf
 refine r_seq ?_
 refine r_region (n := 3) rfl ?_
 refine o_box (v := .agg [.i a0.Round, .sl .no 1 (a0.Notches.map cI), .sl .no 1 (a0.Coins.map cI)]) (cs := [.i a0.Round, .sl .no 1 (a0.Notches.map cI), .sl .no 1 (a0.Coins.map cI)]) hS (by decide) rfl rfl (by omega) fun H hS => ?_
 refine o_assign (v := .i 0) (by decide) rfl ?_
 refine o_assign (v := .i 0) (by decide) rfl ?_
 refine run_nil ?_
 refine w_iceE (L' := []) 0 3 hS rfl rfl rfl fun H hS => ?_
 refine w_next [(1, .i a1), (2, .i a2), (3, .ep [.i a0.Round, .sl .no 1 (a0.Notches.map cI), .sl .no 1 (a0.Coins.map cI)]), (7, .i 0)] (.k (.k (.k (.k .nil)))) ?_
 refine w_join (J := Int × Int) (fun j => [(1, .i j.1), (7, .i j.2)]) (fun j H' g' => St (· < g) H0 [] H' g' ∧ ref01_Put_j1 j.1 j.2 = some r) ?_ ?_
 ·rintro ⟨v1, v2⟩ H g1 ⟨hS, hM⟩
  change wpA _ _ _ _ (Fr.of [(1, .i v1), (7, .i v2)]) _ _
  replace hS : St (· < g) H0 [] H g1 := hS
  replace hM : ref01_Put_j1 v1 v2 = some r := hM
  refine r_seq ?_
  refine r_region (n := 4) rfl ?_
  refine o_move (v := .i v1) (by decide) rfl ?_
  refine o_move (v := .i v2) (by decide) rfl ?_
  refine o_assign (v := .i v1) (by decide) rfl ?_
  refine o_assign (v := .i v2) (by decide) rfl ?_
  refine run_nil ?_
  refine w_next [(6, .i v1), (7, .i v2)] (.k (.k .nil)) ?_
  refine r_ret ?_
  refine w_end (x := .tup [.i v1, .i v2]) (f := fun r => .tup [.i r.1, .i r.2]) (.inr rfl) ?_ (.refl _) (Option.some.inj hM) hS
  exact (res_two (res_tmp (x := .i v1) rfl) (res_tmp (x := .i v2) rfl))
 ·refine r_seq ?_
  refine r_region (n := 1) rfl ?_
  refine o_assign (v := .i 0) (by decide) rfl ?_
  refine run_nil ?_
  refine w_next [(1, .i a1), (2, .i a2), (3, .ep [.i a0.Round, .sl .no 1 (a0.Notches.map cI), .sl .no 1 (a0.Coins.map cI)]), (7, .i 0), (8, .i 0)] (.k (.k (.k (.k (.k .nil))))) ?_
  refine r_block ?_
  refine w_loop (V := Int × Int × Int) (fun v => [(1, .i v.1), (2, .i a2), (3, .ep [.i a0.Round, .sl .no 1 (a0.Notches.map cI), .sl .no 1 (a0.Coins.map cI)]), (7, .i v.2.1), (8, .i v.2.2)]) (fun v m2 H' g' => St (· < g) H0 [] H' g' ∧ ref01_Put_l1 n a0 a2 m2 v.1 v.2.1 v.2.2 = some r) (n := n) (a1, 0, 0) (.k (.k (.k (.k (.k .nil))))) ⟨(hS.keep [] rfl).up (by omega), hM⟩ ?_
  rintro ⟨v3, v4, v5⟩ m2 H g2 ⟨hS, hM⟩
  obtain _ | m2 := m2
  ·exact nomatch (show none = some _ from hM)
  change wpA _ _ _ _ (Fr.of [(1, .i v3), (2, .i a2), (3, .ep [.i a0.Round, .sl .no 1 (a0.Notches.map cI), .sl .no 1 (a0.Coins.map cI)]), (7, .i v4), (8, .i v5)]) _ _
  replace hS : St (· < g) H0 [] H g2 := hS
  replace hM : ref01_Put_l1_b n a0 a2 (ref01_Put_l1 n a0 a2 m2) v3 v4 v5 = some r := hM
  refine r_seq ?_
  refine r_seq ?_
  refine r_region (n := 3) rfl ?_
  refine o_move (v := .i v5) (by decide) rfl ?_
  refine o_move (v := .i a2) (by decide) rfl ?_
  refine o_int (v := .b (decide (v5 < a2))) (by decide) rfl rfl rfl ?_
  refine run_nil ?_
  refine w_next [(1, .i v3), (2, .i a2), (3, .ep [.i a0.Round, .sl .no 1 (a0.Notches.map cI), .sl .no 1 (a0.Coins.map cI)]), (7, .i v4), (8, .i v5), (11, .b (decide (v5 < a2)))] (.k (.k (.k (.k (.k (.k .nil)))))) ?_
  rcases Bool.eq_false_or_eq_true (decide (v5 < a2)) with hb6 | hb6
  ·replace hM := ifT hM hb6
   refine w_condT (e := (decide (v5 < a2))) rfl hb6 ?_
   refine r_skip ?_
   refine w_next [(1, .i v3), (2, .i a2), (3, .ep [.i a0.Round, .sl .no 1 (a0.Notches.map cI), .sl .no 1 (a0.Coins.map cI)]), (7, .i v4), (8, .i v5)] (.k (.k (.k (.k (.k .nil))))) ?_
   refine w_join (J := Int × Int) (fun j => [(1, .i j.1), (2, .i a2), (3, .ep [.i a0.Round, .sl .no 1 (a0.Notches.map cI), .sl .no 1 (a0.Coins.map cI)]), (7, .i j.2), (8, .i v5)]) (fun j H' g' => St (· < g) H0 [] H' g' ∧ ref01_Put_j2 (ref01_Put_l1 n a0 a2 m2) v5 j.1 j.2 = some r) ?_ ?_
   ·rintro ⟨v7, v8⟩ H g3 ⟨hS, hM⟩
    change wpA _ _ _ _ (Fr.of [(1, .i v7), (2, .i a2), (3, .ep [.i a0.Round, .sl .no 1 (a0.Notches.map cI), .sl .no 1 (a0.Coins.map cI)]), (7, .i v8), (8, .i v5)]) _ _
    replace hS : St (· < g) H0 [] H g3 := hS
    replace hM : ref01_Put_j2 (ref01_Put_l1 n a0 a2 m2) v5 v7 v8 = some r := hM
    refine r_region (n := 3) rfl ?_
    refine o_move (v := .i v5) (by decide) rfl ?_
    refine o_int (v := .i (w64 (v5 + 1))) (by decide) rfl rfl rfl ?_
    refine o_assign (v := .i (w64 (v5 + 1))) (by decide) rfl ?_
    refine run_nil ?_
    exact w_round (v7, v8, w64 (v5 + 1)) (Nat.lt_succ_self _) (.k (.k (.k (.k (.k .nil))))) ⟨(hS.keep [] rfl).up (by omega), hM⟩
   ·refine r_block ?_
    refine r_seq ?_
    refine r_region (n := 3) rfl ?_
    refine o_move (v := .i v3) (by decide) rfl ?_
    refine o_int (v := .i (w64 (v3 + 1))) (by decide) rfl rfl rfl ?_
    refine o_assign (v := .i (w64 (v3 + 1))) (by decide) rfl ?_
    refine run_nil ?_
    refine w_next [(1, .i (w64 (v3 + 1))), (2, .i a2), (3, .ep [.i a0.Round, .sl .no 1 (a0.Notches.map cI), .sl .no 1 (a0.Coins.map cI)]), (7, .i v4), (8, .i v5)] (.k (.k (.k (.k (.k .nil))))) ?_
    refine w_join (J := Int) (fun j => [(1, .i (w64 (v3 + 1))), (2, .i a2), (3, .ep [.i a0.Round, .sl .no 1 (a0.Notches.map cI), .sl .no 1 (a0.Coins.map cI)]), (7, .i j), (8, .i v5)]) (fun j H' g' => St (· < g) H0 [] H' g' ∧ ref01_Put_j3 (ref01_Put_l1 n a0 a2 m2) a0 v3 v5 j = some r) ?_ ?_
    ·rintro v9 H g4 ⟨hS, hM⟩
     change wpA _ _ _ _ (Fr.of [(1, .i (w64 (v3 + 1))), (2, .i a2), (3, .ep [.i a0.Round, .sl .no 1 (a0.Notches.map cI), .sl .no 1 (a0.Coins.map cI)]), (7, .i v9), (8, .i v5)]) _ _
     replace hS : St (· < g) H0 [] H g4 := hS
     replace hM : ref01_Put_j3 (ref01_Put_l1 n a0 a2 m2) a0 v3 v5 v9 = some r := hM
     refine r_seq ?_
     refine r_region (n := 4) rfl ?_
     refine o_move (v := .i (w64 (v3 + 1))) (by decide) rfl ?_
     refine o_fieldE (cs := [.i a0.Round, .sl .no 1 (a0.Notches.map cI), .sl .no 1 (a0.Coins.map cI)]) (by decide) ty_fo24_0 rfl ?_
     refine o_loadE (v := .i a0.Round) (by decide) rfl (part_one ty_agg3 ty_sc3 rfl) ?_
     refine o_int (v := .b ((w64 (v3 + 1)) == a0.Round)) (by decide) rfl rfl rfl ?_
     refine run_nil ?_
     refine w_next [(1, .i (w64 (v3 + 1))), (2, .i a2), (3, .ep [.i a0.Round, .sl .no 1 (a0.Notches.map cI), .sl .no 1 (a0.Coins.map cI)]), (7, .i v9), (8, .i v5), (25, .b ((w64 (v3 + 1)) == a0.Round))] (.k (.k (.k (.k (.k (.k .nil)))))) ?_
     rcases Bool.eq_false_or_eq_true ((w64 (v3 + 1)) == a0.Round) with hb10 | hb10
     ·replace hM := ifT hM hb10
      refine w_condT (e := ((w64 (v3 + 1)) == a0.Round)) rfl hb10 ?_
      refine r_region (n := 1) rfl ?_
      refine o_assign (v := .i 0) (by decide) rfl ?_
      refine run_nil ?_
      refine r_blk_normal ?_
      exact w_goto (0, v9) (.k (.k (.k (.k (.k .nil))))) ⟨(hS.keep [] rfl).up (by omega), hM⟩
     ·replace hM := ifF hM hb10
      refine w_condF (e := ((w64 (v3 + 1)) == a0.Round)) rfl hb10 ?_
      refine r_skip ?_
      refine r_blk_normal ?_
      exact w_goto (w64 (v3 + 1), v9) (.k (.k (.k (.k (.k .nil))))) ⟨(hS.keep [] rfl).up (by omega), hM⟩
    ·refine r_seq ?_
     refine r_region (n := 4) rfl ?_
     refine o_fieldE (cs := [.i a0.Round, .sl .no 1 (a0.Notches.map cI), .sl .no 1 (a0.Coins.map cI)]) (by decide) ty_fo24_1 rfl ?_
     refine o_loadE (v := .sl .no 1 (a0.Notches.map cI)) (by decide) rfl (part_one ty_agg22 ty_sc22 rfl) ?_
     refine o_move (v := .i (w64 (v3 + 1))) (by decide) rfl ?_
     obtain ⟨r11, hr11, hM⟩ := bindE hM
     refine o_call (bs := [.sl .no 1 (a0.Notches.map cI), .i (w64 (v3 + 1))]) (by decide) rfl rfl ((W_ref01_In hr11).le (.k (.k .nil))) ?_
     refine run_nil ?_
     refine w_next [(1, .i (w64 (v3 + 1))), (2, .i a2), (3, .ep [.i a0.Round, .sl .no 1 (a0.Notches.map cI), .sl .no 1 (a0.Coins.map cI)]), (7, .i v4), (8, .i v5), (19, .b r11)] (.k (.k (.k (.k (.k (.k .nil)))))) ?_
     rcases Bool.eq_false_or_eq_true r11 with hb12 | hb12
     ·replace hM := ifT hM hb12
      refine w_condT (e := r11) rfl hb12 ?_
      refine r_region (n := 3) rfl ?_
      refine o_move (v := .i v4) (by decide) rfl ?_
      refine o_int (v := .i (w64 (v4 + 1))) (by decide) rfl rfl rfl ?_
      refine o_assign (v := .i (w64 (v4 + 1))) (by decide) rfl ?_
      refine run_nil ?_
      exact w_goto (w64 (v4 + 1)) (.k (.k (.k (.k (.k .nil))))) ⟨(hS.keep [] rfl).up (by omega), hM⟩
     ·replace hM := ifF hM hb12
      refine w_condF (e := r11) rfl hb12 ?_
      refine r_skip ?_
      exact w_goto v4 (.k (.k (.k (.k (.k .nil))))) ⟨(hS.keep [] rfl).up (by omega), hM⟩
  ·replace hM := ifF hM hb6
   refine w_condF (e := (decide (v5 < a2))) rfl hb6 ?_
   refine r_exit ?_
   refine r_then_exit ?_
   refine w_round_exit ?_
   refine r_blk_exit ?_
   exact w_goto (v3, v4) (.k (.k .nil)) ⟨(hS.keep [] rfl).up (by omega), hM⟩
theorem W_law01_same {n : Nat} {a0 : Wheel} {a1 : Wheel} {r : Bool} (hM : law01_same n a0 a1 = some r) : PureSat Try.prog 21 [.agg [.i a0.Round, .sl .no 1 (a0.Notches.map cI), .sl .no 1 (a0.Coins.map cI)], .agg [.i a1.Round, .sl .no 1 (a1.Notches.map cI), .sl .no 1 (a1.Coins.map cI)]] (.b r) := by
 refine pure_of_wp mixed Try.func21 rfl (by decide) Try.ntmps21 (by simp) ?pure fun H0 g hf => ?_
 case pure => exact .v _
 rw [frame0_of]
 change wpA _ _ _ _ (Fr.of [(0, .agg [.i a0.Round, .sl .no 1 (a0.Notches.map cI), .sl .no 1 (a0.Coins.map cI)]), (1, .agg [.i a1.Round, .sl .no 1 (a1.Notches.map cI), .sl .no 1 (a1.Coins.map cI)])]) H0 g
 have hS := St.start hf
 refine r_seq ?_
 refine r_region (n := 3) rfl ?_
 refine o_box (v := .agg [.i a0.Round, .sl .no 1 (a0.Notches.map cI), .sl .no 1 (a0.Coins.map cI)]) (cs := [.i a0.Round, .sl .no 1 (a0.Notches.map cI), .sl .no 1 (a0.Coins.map cI)]) hS (by decide) rfl rfl (by omega) fun H hS => ?_
 refine o_box (v := .agg [.i a1.Round, .sl .no 1 (a1.Notches.map cI), .sl .no 1 (a1.Coins.map cI)]) (cs := [.i a1.Round, .sl .no 1 (a1.Notches.map cI), .sl .no 1 (a1.Coins.map cI)]) hS (by decide) rfl rfl (by omega) fun H hS => ?_
 refine o_assign (v := .b false) (by decide) rfl ?_
 refine run_nil ?_
 refine w_iceE (L' := [(g + 1, .cells [.i a1.Round, .sl .no 1 (a1.Notches.map cI), .sl .no 1 (a1.Coins.map cI)])]) 1 2 hS rfl rfl rfl fun H hS => ?_
 refine w_iceE (L' := []) 0 3 hS rfl rfl rfl fun H hS => ?_
 refine w_next [(2, .ep [.i a0.Round, .sl .no 1 (a0.Notches.map cI), .sl .no 1 (a0.Coins.map cI)]), (3, .ep [.i a1.Round, .sl .no 1 (a1.Notches.map cI), .sl .no 1 (a1.Coins.map cI)])] (.k (.k .nil)) ?_
 refine w_join (J := Bool) (fun j => [(4, .b j)]) (fun j H' g' => St (· < g) H0 [] H' g' ∧ law01_same_j1 j = some r) ?_ ?_
 ·rintro v1 H g1 ⟨hS, hM⟩
  change wpA _ _ _ _ (Fr.of [(4, .b v1)]) _ _
  replace hS : St (· < g) H0 [] H g1 := hS
  replace hM : law01_same_j1 v1 = some r := hM
  refine r_ret ?_
  refine w_end (x := .b v1) (f := fun r => .b r) (.inr rfl) ?_ (.refl _) (Option.some.inj hM) hS
  exact (res_one (res_tmp (x := .b v1) rfl))
 ·refine r_region (n := 20) rfl ?_
  refine o_fieldE (cs := [.i a0.Round, .sl .no 1 (a0.Notches.map cI), .sl .no 1 (a0.Coins.map cI)]) (by decide) ty_fo24_0 rfl ?_
  refine o_loadE (v := .i a0.Round) (by decide) rfl (part_one ty_agg3 ty_sc3 rfl) ?_
  refine o_fieldE (cs := [.i a1.Round, .sl .no 1 (a1.Notches.map cI), .sl .no 1 (a1.Coins.map cI)]) (by decide) ty_fo24_0 rfl ?_
  refine o_loadE (v := .i a1.Round) (by decide) rfl (part_one ty_agg3 ty_sc3 rfl) ?_
  refine o_int (v := .b (a0.Round == a1.Round)) (by decide) rfl rfl rfl ?_
  refine o_move (v := .b (a0.Round == a1.Round)) (by decide) rfl ?_
  rcases Bool.eq_false_or_eq_true (a0.Round == a1.Round) with hb2 | hb2
  ·replace hM := ifT hM hb2
   refine o_guardY (j := 5) (e := (a0.Round == a1.Round)) (want := true) rfl hb2 ?_
   refine o_fieldE (cs := [.i a0.Round, .sl .no 1 (a0.Notches.map cI), .sl .no 1 (a0.Coins.map cI)]) (by decide) ty_fo24_1 rfl ?_
   refine o_guardY (j := 5) (e := (a0.Round == a1.Round)) (want := true) rfl hb2 ?_
   refine o_loadE (v := .sl .no 1 (a0.Notches.map cI)) (by decide) rfl (part_one ty_agg22 ty_sc22 rfl) ?_
   refine o_guardY (j := 5) (e := (a0.Round == a1.Round)) (want := true) rfl hb2 ?_
   refine o_fieldE (cs := [.i a1.Round, .sl .no 1 (a1.Notches.map cI), .sl .no 1 (a1.Coins.map cI)]) (by decide) ty_fo24_1 rfl ?_
   refine o_guardY (j := 5) (e := (a0.Round == a1.Round)) (want := true) rfl hb2 ?_
   refine o_loadE (v := .sl .no 1 (a1.Notches.map cI)) (by decide) rfl (part_one ty_agg22 ty_sc22 rfl) ?_
   refine o_guardY (j := 5) (e := (a0.Round == a1.Round)) (want := true) rfl hb2 ?_
   obtain ⟨r3, hr3, hM⟩ := bindE hM
   refine o_call (bs := [.sl .no 1 (a0.Notches.map cI), .sl .no 1 (a1.Notches.map cI)]) (by decide) rfl rfl ((W_ref01_SameInts hr3).le (.k (.k .nil))) ?_
   refine o_pickT (v := .b r3) (e := (a0.Round == a1.Round)) (by decide) rfl hb2 rfl ?_
   refine o_move (v := .b r3) (by decide) rfl ?_
   rcases Bool.eq_false_or_eq_true r3 with hb4 | hb4
   ·replace hM := ifT hM hb4
    refine o_guardY (j := 12) (e := r3) (want := true) rfl hb4 ?_
    refine o_fieldE (cs := [.i a0.Round, .sl .no 1 (a0.Notches.map cI), .sl .no 1 (a0.Coins.map cI)]) (by decide) ty_fo24_2 rfl ?_
    refine o_guardY (j := 12) (e := r3) (want := true) rfl hb4 ?_
    refine o_loadE (v := .sl .no 1 (a0.Coins.map cI)) (by decide) rfl (part_one ty_agg22 ty_sc22 rfl) ?_
    refine o_guardY (j := 12) (e := r3) (want := true) rfl hb4 ?_
    refine o_fieldE (cs := [.i a1.Round, .sl .no 1 (a1.Notches.map cI), .sl .no 1 (a1.Coins.map cI)]) (by decide) ty_fo24_2 rfl ?_
    refine o_guardY (j := 12) (e := r3) (want := true) rfl hb4 ?_
    refine o_loadE (v := .sl .no 1 (a1.Coins.map cI)) (by decide) rfl (part_one ty_agg22 ty_sc22 rfl) ?_
    refine o_guardY (j := 12) (e := r3) (want := true) rfl hb4 ?_
    obtain ⟨r5, hr5, hM⟩ := bindE hM
    refine o_call (bs := [.sl .no 1 (a0.Coins.map cI), .sl .no 1 (a1.Coins.map cI)]) (by decide) rfl rfl ((W_ref01_SameInts hr5).le (.k (.k .nil))) ?_
    refine o_pickT (v := .b r5) (e := r3) (by decide) rfl hb4 rfl ?_
    refine o_assign (v := .b r5) (by decide) rfl ?_
    refine run_nil ?_
    exact w_goto r5 (.k .nil) ⟨(hS.keep [] rfl).up (by omega), hM⟩
   ·replace hM := ifF hM hb4
    refine o_guardN (j := 12) (e := r3) (want := true) (by decide) rfl hb4 ?_
    refine o_guardN (j := 12) (e := r3) (want := true) (by decide) rfl hb4 ?_
    refine o_guardN (j := 12) (e := r3) (want := true) (by decide) rfl hb4 ?_
    refine o_guardN (j := 12) (e := r3) (want := true) (by decide) rfl hb4 ?_
    refine o_guardN (j := 12) (e := r3) (want := true) (by decide) rfl hb4 ?_
    refine o_pickF (v := .b false) (e := r3) (by decide) rfl hb4 rfl ?_
    refine o_assign (v := .b false) (by decide) rfl ?_
    refine run_nil ?_
    exact w_goto false (.k .nil) ⟨(hS.keep [] rfl).up (by omega), hM⟩
  ·replace hM := ifF hM hb2
   refine o_guardN (j := 5) (e := (a0.Round == a1.Round)) (want := true) (by decide) rfl hb2 ?_
   refine o_guardN (j := 5) (e := (a0.Round == a1.Round)) (want := true) (by decide) rfl hb2 ?_
   refine o_guardN (j := 5) (e := (a0.Round == a1.Round)) (want := true) (by decide) rfl hb2 ?_
   refine o_guardN (j := 5) (e := (a0.Round == a1.Round)) (want := true) (by decide) rfl hb2 ?_
   refine o_guardN (j := 5) (e := (a0.Round == a1.Round)) (want := true) (by decide) rfl hb2 ?_
   refine o_pickF (v := .b false) (e := (a0.Round == a1.Round)) (by decide) rfl hb2 rfl ?_
   refine o_move (v := .b false) (by decide) rfl ?_
   refine o_guardN (j := 12) (e := false) (want := true) (by decide) rfl rfl ?_
   refine o_guardN (j := 12) (e := false) (want := true) (by decide) rfl rfl ?_
   refine o_guardN (j := 12) (e := false) (want := true) (by decide) rfl rfl ?_
   refine o_guardN (j := 12) (e := false) (want := true) (by decide) rfl rfl ?_
   refine o_guardN (j := 12) (e := false) (want := true) (by decide) rfl rfl ?_
   refine o_pickF (v := .b false) (e := false) (by decide) rfl rfl rfl ?_
   refine o_assign (v := .b false) (by decide) rfl ?_
   refine run_nil ?_
   exact w_goto false (.k .nil) ⟨(hS.keep [] rfl).up (by omega), hM⟩
theorem W_ref01_IsPlace {a0 : Wheel} {a1 : Int} {r : Bool} (hM : ref01_IsPlace a0 a1 = some r) : PureSat Try.prog 35 [.agg [.i a0.Round, .sl .no 1 (a0.Notches.map cI), .sl .no 1 (a0.Coins.map cI)], .i a1] (.b r) := by
 refine pure_of_wp mixed Try.func35 rfl (by decide) Try.ntmps35 (by simp) ?pure fun H0 g hf => ?_
 case pure => exact .v _
 rw [frame0_of]
 change wpA _ _ _ _ (Fr.of [(0, .agg [.i a0.Round, .sl .no 1 (a0.Notches.map cI), .sl .no 1 (a0.Coins.map cI)]), (1, .i a1)]) H0 g
 have hS := St.start hf
 refine r_seq ?_
 refine r_region (n := 2) rfl ?_
 refine o_box (v := .agg [.i a0.Round, .sl .no 1 (a0.Notches.map cI), .sl .no 1 (a0.Coins.map cI)]) (cs := [.i a0.Round, .sl .no 1 (a0.Notches.map cI), .sl .no 1 (a0.Coins.map cI)]) hS (by decide) rfl rfl (by omega) fun H hS => ?_
 refine o_assign (v := .b false) (by decide) rfl ?_
 refine run_nil ?_
 refine w_iceE (L' := []) 0 2 hS rfl rfl rfl fun H hS => ?_
 refine w_next [(1, .i a1), (2, .ep [.i a0.Round, .sl .no 1 (a0.Notches.map cI), .sl .no 1 (a0.Coins.map cI)])] (.k (.k .nil)) ?_
 refine r_seq ?_
 refine r_region (n := 6) rfl ?_
 refine o_move (v := .i a1) (by decide) rfl ?_
 refine o_fieldE (cs := [.i a0.Round, .sl .no 1 (a0.Notches.map cI), .sl .no 1 (a0.Coins.map cI)]) (by decide) ty_fo24_0 rfl ?_
 refine o_loadE (v := .i a0.Round) (by decide) rfl (part_one ty_agg3 ty_sc3 rfl) ?_
 refine o_int (v := .i (w64 (a0.Round - 1))) (by decide) rfl rfl rfl ?_
 obtain ⟨r1, hr1, hM⟩ := bindE hM
 refine o_call (bs := [.i a1, .i 0, .i (w64 (a0.Round - 1))]) (by decide) rfl rfl ((W_ref01_Within hr1).le (.k (.k (.k .nil)))) ?_
 refine o_assign (v := .b r1) (by decide) rfl ?_
 refine run_nil ?_
 refine w_next [(4, .b r1)] (.k .nil) ?_
 refine r_ret ?_
 refine w_end (x := .b r1) (f := fun r => .b r) (.inr rfl) ?_ (.refl _) (Option.some.inj hM) hS
 exact (res_one (res_tmp (x := .b r1) rfl))
theorem W_ref01_AreKinds {n : Nat} {a0 : Wheel} {a1 : List Int} {a2 : Int} {r : Bool} (hM : ref01_AreKinds n a0 a1 a2 = some r) : PureSat Try.prog 36 [.agg [.i a0.Round, .sl .no 1 (a0.Notches.map cI), .sl .no 1 (a0.Coins.map cI)], .sl .no 1 (a1.map cI), .i a2] (.b r) := by
 refine pure_of_wp mixed Try.func36 rfl (by decide) Try.ntmps36 (by simp) ?pure fun H0 g hf => ?_
 case pure => exact .v _
 rw [frame0_of]
 change wpA _ _ _ _ (Fr.of [(0, .agg [.i a0.Round, .sl .no 1 (a0.Notches.map cI), .sl .no 1 (a0.Coins.map cI)]), (1, .sl .no 1 (a1.map cI)), (2, .i a2)]) H0 g
 have hS := St.start hf
 refine r_seq ?_
 refine r_region (n := 2) rfl ?_
 refine o_box (v := .agg [.i a0.Round, .sl .no 1 (a0.Notches.map cI), .sl .no 1 (a0.Coins.map cI)]) (cs := [.i a0.Round, .sl .no 1 (a0.Notches.map cI), .sl .no 1 (a0.Coins.map cI)]) hS (by decide) rfl rfl (by omega) fun H hS => ?_
 refine o_assign (v := .b false) (by decide) rfl ?_
 refine run_nil ?_
 refine w_iceE (L' := []) 0 3 hS rfl rfl rfl fun H hS => ?_
 refine w_next [(1, .sl .no 1 (a1.map cI)), (2, .i a2), (3, .ep [.i a0.Round, .sl .no 1 (a0.Notches.map cI), .sl .no 1 (a0.Coins.map cI)])] (.k (.k (.k .nil))) ?_
 refine w_join (J := Unit) (fun j => [(1, .sl .no 1 (a1.map cI))]) (fun j H' g' => St (· < g) H0 [] H' g' ∧ ref01_AreKinds_j1 a1 = some r) ?_ ?_
 ·rintro _ H g1 ⟨hS, hM⟩
  change wpA _ _ _ _ (Fr.of [(1, .sl .no 1 (a1.map cI))]) _ _
  replace hS : St (· < g) H0 [] H g1 := hS
  replace hM : ref01_AreKinds_j1 a1 = some r := hM
  refine r_seq ?_
  refine r_region (n := 4) rfl ?_
  refine o_move (v := .sl .no 1 (a1.map cI)) (by decide) rfl ?_
  refine o_len (n := a1.length) (by decide) rfl (List.length_map _) ty_isl22 ?_
  refine o_int (v := .b (decide ((a1.length : Int) ≤ 20))) (by decide) rfl rfl rfl ?_
  refine o_assign (v := .b (decide ((a1.length : Int) ≤ 20))) (by decide) rfl ?_
  refine run_nil ?_
  refine w_next [(6, .b (decide ((a1.length : Int) ≤ 20)))] (.k .nil) ?_
  refine r_ret ?_
  refine w_end (x := .b (decide ((a1.length : Int) ≤ 20))) (f := fun r => .b r) (.inr rfl) ?_ (.refl _) (Option.some.inj hM) hS
  exact (res_one (res_tmp (x := .b (decide ((a1.length : Int) ≤ 20))) rfl))
 ·refine r_seq ?_
  refine r_region (n := 1) rfl ?_
  refine o_assign (v := .i 0) (by decide) rfl ?_
  refine run_nil ?_
  refine w_next [(1, .sl .no 1 (a1.map cI)), (2, .i a2), (3, .ep [.i a0.Round, .sl .no 1 (a0.Notches.map cI), .sl .no 1 (a0.Coins.map cI)]), (7, .i 0)] (.k (.k (.k (.k .nil)))) ?_
  refine r_block ?_
  refine w_loop (V := Int) (fun v => [(1, .sl .no 1 (a1.map cI)), (2, .i a2), (3, .ep [.i a0.Round, .sl .no 1 (a0.Notches.map cI), .sl .no 1 (a0.Coins.map cI)]), (7, .i v)]) (fun v m2 H' g' => St (· < g) H0 [] H' g' ∧ ref01_AreKinds_l1 a0 a1 a2 m2 v = some r) (n := n) 0 (.k (.k (.k (.k .nil)))) ⟨(hS.keep [] rfl).up (by omega), hM⟩ ?_
  rintro v1 m2 H g2 ⟨hS, hM⟩
  obtain _ | m2 := m2
  ·exact nomatch (show none = some _ from hM)
  change wpA _ _ _ _ (Fr.of [(1, .sl .no 1 (a1.map cI)), (2, .i a2), (3, .ep [.i a0.Round, .sl .no 1 (a0.Notches.map cI), .sl .no 1 (a0.Coins.map cI)]), (7, .i v1)]) _ _
  replace hS : St (· < g) H0 [] H g2 := hS
  replace hM : ref01_AreKinds_l1_b a0 a1 a2 (ref01_AreKinds_l1 a0 a1 a2 m2) v1 = some r := hM
  refine r_seq ?_
  refine r_seq ?_
  refine r_region (n := 4) rfl ?_
  refine o_move (v := .i v1) (by decide) rfl ?_
  refine o_move (v := .sl .no 1 (a1.map cI)) (by decide) rfl ?_
  refine o_len (n := a1.length) (by decide) rfl (List.length_map _) ty_isl22 ?_
  refine o_int (v := .b (decide (v1 < (a1.length : Int)))) (by decide) rfl rfl rfl ?_
  refine run_nil ?_
  refine w_next [(1, .sl .no 1 (a1.map cI)), (2, .i a2), (3, .ep [.i a0.Round, .sl .no 1 (a0.Notches.map cI), .sl .no 1 (a0.Coins.map cI)]), (7, .i v1), (11, .b (decide (v1 < (a1.length : Int))))] (.k (.k (.k (.k (.k .nil))))) ?_
  rcases Bool.eq_false_or_eq_true (decide (v1 < (a1.length : Int))) with hb2 | hb2
  ·replace hM := ifT hM hb2
   refine w_condT (e := (decide (v1 < (a1.length : Int)))) rfl hb2 ?_
   refine r_skip ?_
   refine w_next [(1, .sl .no 1 (a1.map cI)), (2, .i a2), (3, .ep [.i a0.Round, .sl .no 1 (a0.Notches.map cI), .sl .no 1 (a0.Coins.map cI)]), (7, .i v1)] (.k (.k (.k (.k .nil)))) ?_
   refine r_seq ?_
   refine r_block ?_
   refine r_seq ?_
   have hS0 := hS
   refine r_draw (n := 11) rfl (by kernel_rfl) ?_
   refine o_move (v := .sl .no 1 (a1.map cI)) (by decide) rfl ?_
   refine o_move (v := .i v1) (by decide) rfl ?_
   obtain ⟨x3, hx3, hM⟩ := bindE hM
   refine o_index (xs := a1) (f := cI) (z := v1) (u := x3) (by decide) rfl rfl ty_es22 hx3 ?_
   refine o_loadE (v := .i x3) (by decide) rfl (part_one ty_agg3 ty_sc3 rfl) ?_
   refine o_move (v := .i a2) (by decide) rfl ?_
   refine o_fieldE (cs := [.i a0.Round, .sl .no 1 (a0.Notches.map cI), .sl .no 1 (a0.Coins.map cI)]) (by decide) ty_fo24_2 rfl ?_
   refine o_loadE (v := .sl .no 1 (a0.Coins.map cI)) (by decide) rfl (part_one ty_agg22 ty_sc22 rfl) ?_
   refine o_len (n := a0.Coins.length) (by decide) rfl (List.length_map _) ty_isl22 ?_
   refine o_int (v := .i (w64 ((a0.Coins.length : Int) - 1))) (by decide) rfl rfl rfl ?_
   obtain ⟨r4, hr4, hM⟩ := bindE hM
   refine o_call (bs := [.i x3, .i a2, .i (w64 ((a0.Coins.length : Int) - 1))]) (by decide) rfl rfl ((W_ref01_Within hr4).le (.k (.k (.k .nil)))) ?_
   refine o_not (e := r4) (by decide) rfl ?_
   refine run_nil ?_
   refine w_next [(1, .sl .no 1 (a1.map cI)), (2, .i a2), (3, .ep [.i a0.Round, .sl .no 1 (a0.Notches.map cI), .sl .no 1 (a0.Coins.map cI)]), (7, .i v1), (24, .b (!r4))] (.k (.k (.k (.k (.k .nil))))) ?_
   rcases Bool.eq_false_or_eq_true (!r4) with hb5 | hb5
   ·replace hM := ifT hM hb5
    refine w_condT (e := (!r4)) rfl hb5 ?_
    refine r_seq ?_
    refine r_region (n := 1) rfl ?_
    refine o_assign (v := .b false) (by decide) rfl ?_
    refine run_nil ?_
    refine w_next [(6, .b false)] (.k .nil) ?_
    refine r_ret ?_
    refine r_blk_ret ?_
    refine r_then_ret ?_
    refine w_round_ret ?_
    refine r_blk_ret ?_
    refine w_goto_ret ?_
    refine w_end (x := .b false) (f := fun r => .b r) (.inr rfl) ?_ (.refl _) (Option.some.inj hM) hS
    exact (res_one (res_tmp (x := .b false) rfl))
   ·replace hM := ifF hM hb5
    refine w_condF (e := (!r4)) rfl hb5 ?_
    refine r_skip ?_
    refine r_blk_normal ?_
    refine w_next [(1, .sl .no 1 (a1.map cI)), (2, .i a2), (3, .ep [.i a0.Round, .sl .no 1 (a0.Notches.map cI), .sl .no 1 (a0.Coins.map cI)]), (7, .i v1)] (.k (.k (.k (.k .nil)))) ?_
    refine r_region (n := 3) rfl ?_
    refine o_move (v := .i v1) (by decide) rfl ?_
    refine o_int (v := .i (w64 (v1 + 1))) (by decide) rfl rfl rfl ?_
    refine o_assign (v := .i (w64 (v1 + 1))) (by decide) rfl ?_
    refine run_nil ?_
    exact w_round (w64 (v1 + 1)) (Nat.lt_succ_self _) (.k (.k (.k (.k .nil)))) ⟨(hS.keep [] rfl).up (by omega), hM⟩
  ·replace hM := ifF hM hb2
   refine w_condF (e := (decide (v1 < (a1.length : Int)))) rfl hb2 ?_
   refine r_exit ?_
   refine r_then_exit ?_
   refine w_round_exit ?_
   refine r_blk_exit ?_
   exact w_goto () (.k .nil) ⟨(hS.keep [] rfl).up (by omega), hM⟩
theorem W_ref01_IsStand {a0 : Wheel} {a1 : Stand} {r : Bool} (hM : ref01_IsStand a0 a1 = some r) : PureSat Try.prog 78 [.agg [.i a0.Round, .sl .no 1 (a0.Notches.map cI), .sl .no 1 (a0.Coins.map cI)], .agg [.i a1.Place, .i a1.Credit]] (.b r) := by
 refine pure_of_wp mixed Try.func78 rfl (by decide) Try.ntmps78 (by simp) ?pure fun H0 g hf => ?_
 case pure => exact .v _
 rw [frame0_of]
 change wpA _ _ _ _ (Fr.of [(0, .agg [.i a0.Round, .sl .no 1 (a0.Notches.map cI), .sl .no 1 (a0.Coins.map cI)]), (1, .agg [.i a1.Place, .i a1.Credit])]) H0 g
 have hS := St.start hf
 refine r_seq ?_
 refine r_region (n := 3) rfl ?_
 refine o_box (v := .agg [.i a0.Round, .sl .no 1 (a0.Notches.map cI), .sl .no 1 (a0.Coins.map cI)]) (cs := [.i a0.Round, .sl .no 1 (a0.Notches.map cI), .sl .no 1 (a0.Coins.map cI)]) hS (by decide) rfl rfl (by omega) fun H hS => ?_
 refine o_box (v := .agg [.i a1.Place, .i a1.Credit]) (cs := [.i a1.Place, .i a1.Credit]) hS (by decide) rfl rfl (by omega) fun H hS => ?_
 refine o_assign (v := .b false) (by decide) rfl ?_
 refine run_nil ?_
 refine w_iceE (L' := [(g + 1, .cells [.i a1.Place, .i a1.Credit])]) 1 2 hS rfl rfl rfl fun H hS => ?_
 refine w_iceE (L' := []) 0 3 hS rfl rfl rfl fun H hS => ?_
 refine w_next [(2, .ep [.i a0.Round, .sl .no 1 (a0.Notches.map cI), .sl .no 1 (a0.Coins.map cI)]), (3, .ep [.i a1.Place, .i a1.Credit])] (.k (.k .nil)) ?_
 refine w_join (J := Bool) (fun j => [(4, .b j)]) (fun j H' g' => St (· < g) H0 [] H' g' ∧ ref01_IsStand_j1 j = some r) ?_ ?_
 ·rintro v1 H g1 ⟨hS, hM⟩
  change wpA _ _ _ _ (Fr.of [(4, .b v1)]) _ _
  replace hS : St (· < g) H0 [] H g1 := hS
  replace hM : ref01_IsStand_j1 v1 = some r := hM
  refine r_ret ?_
  refine w_end (x := .b v1) (f := fun r => .b r) (.inr rfl) ?_ (.refl _) (Option.some.inj hM) hS
  exact (res_one (res_tmp (x := .b v1) rfl))
 ·refine r_region (n := 10) rfl ?_
  refine o_loadE (v := .agg [.i a0.Round, .sl .no 1 (a0.Notches.map cI), .sl .no 1 (a0.Coins.map cI)]) (by decide) rfl (part_agg ty_agg24 (Nat.le_of_ble_eq_true rfl) rfl) ?_
  refine o_fieldE (cs := [.i a1.Place, .i a1.Credit]) (by decide) ty_fo57_0 rfl ?_
  refine o_loadE (v := .i a1.Place) (by decide) rfl (part_one ty_agg3 ty_sc3 rfl) ?_
  obtain ⟨r2, hr2, hM⟩ := bindE hM
  refine o_call (bs := [.agg [.i a0.Round, .sl .no 1 (a0.Notches.map cI), .sl .no 1 (a0.Coins.map cI)], .i a1.Place]) (by decide) rfl rfl ((W_ref01_IsPlace hr2).le (.k (.k .nil))) ?_
  refine o_move (v := .b r2) (by decide) rfl ?_
  rcases Bool.eq_false_or_eq_true r2 with hb3 | hb3
  ·replace hM := ifT hM hb3
   refine o_guardY (j := 4) (e := r2) (want := true) rfl hb3 ?_
   refine o_fieldE (cs := [.i a1.Place, .i a1.Credit]) (by decide) ty_fo57_1 rfl ?_
   refine o_guardY (j := 4) (e := r2) (want := true) rfl hb3 ?_
   refine o_loadE (v := .i a1.Credit) (by decide) rfl (part_one ty_agg3 ty_sc3 rfl) ?_
   refine o_guardY (j := 4) (e := r2) (want := true) rfl hb3 ?_
   obtain ⟨r4, hr4, hM⟩ := bindE hM
   refine o_call (bs := [.i a1.Credit, .i 0, .i 20]) (by decide) rfl rfl ((W_ref01_Within hr4).le (.k (.k (.k .nil)))) ?_
   refine o_pickT (v := .b r4) (e := r2) (by decide) rfl hb3 rfl ?_
   refine o_assign (v := .b r4) (by decide) rfl ?_
   refine run_nil ?_
   exact w_goto r4 (.k .nil) ⟨(hS.keep [] rfl).up (by omega), hM⟩
  ·replace hM := ifF hM hb3
   refine o_guardN (j := 4) (e := r2) (want := true) (by decide) rfl hb3 ?_
   refine o_guardN (j := 4) (e := r2) (want := true) (by decide) rfl hb3 ?_
   refine o_guardN (j := 4) (e := r2) (want := true) (by decide) rfl hb3 ?_
   refine o_pickF (v := .b false) (e := r2) (by decide) rfl hb3 rfl ?_
   refine o_assign (v := .b false) (by decide) rfl ?_
   refine run_nil ?_
   exact w_goto false (.k .nil) ⟨(hS.keep [] rfl).up (by omega), hM⟩
theorem W_ref01_Act {n : Nat} {a0 : Wheel} {a1 : Stand} {a2 : Int} {r : Stand × Bool} (hM : ref01_Act n a0 a1 a2 = some r) : PureSat Try.prog 79 [.agg [.i a0.Round, .sl .no 1 (a0.Notches.map cI), .sl .no 1 (a0.Coins.map cI)], .agg [.i a1.Place, .i a1.Credit], .i a2] (.tup [.agg [.i r.1.Place, .i r.1.Credit], .b r.2]) := by
 refine pure_of_wp mixed Try.func79 rfl (by decide) Try.ntmps79 (by simp) ?pure fun H0 g hf => ?_
 case pure => exact .tup _ (pl_cons (.agg _ (pl_cons (.v _) (pl_cons (.v _) pl_nil))) (pl_cons (.v _) pl_nil))
 rw [frame0_of]
 change wpA _ _ _ _ (Fr.of [(0, .agg [.i a0.Round, .sl .no 1 (a0.Notches.map cI), .sl .no 1 (a0.Coins.map cI)]), (1, .agg [.i a1.Place, .i a1.Credit]), (2, .i a2)]) H0 g
 have hS := St.start hf
 refine r_seq ?_
 refine r_region (n := 4) rfl ?_
 refine o_box (v := .agg [.i a0.Round, .sl .no 1 (a0.Notches.map cI), .sl .no 1 (a0.Coins.map cI)]) (cs := [.i a0.Round, .sl .no 1 (a0.Notches.map cI), .sl .no 1 (a0.Coins.map cI)]) hS (by decide) rfl rfl (by omega) fun H hS => ?_
 refine o_box (v := .agg [.i a1.Place, .i a1.Credit]) (cs := [.i a1.Place, .i a1.Credit]) hS (by decide) rfl rfl (by omega) fun H hS => ?_
 refine o_alloc hS (by decide) ty_zero57 (by omega) fun H hS => ?_
 refine o_assign (v := .b false) (by decide) rfl ?_
 refine run_nil ?_
 refine w_iceE (L' := [(g + 2, .cells [.i 0, .i 0]), (g + 1, .cells [.i a1.Place, .i a1.Credit])]) 2 3 hS rfl rfl rfl fun H hS => ?_
 refine w_iceE (L' := [(g + 2, .cells [.i 0, .i 0])]) 1 4 hS rfl rfl rfl fun H hS => ?_
 refine w_next [(2, .i a2), (3, .ep [.i a0.Round, .sl .no 1 (a0.Notches.map cI), .sl .no 1 (a0.Coins.map cI)]), (4, .ep [.i a1.Place, .i a1.Credit]), (6, .ptr (g + 2) 0)] (.k (.k (.k (.k .nil)))) ?_
 refine r_seq ?_
 refine r_seq ?_
 refine r_region (n := 2) rfl ?_
 refine o_move (v := .i a2) (by decide) rfl ?_
 refine o_int (v := .b (decide (a2 ≥ 0))) (by decide) rfl rfl rfl ?_
 refine run_nil ?_
 refine w_next [(2, .i a2), (3, .ep [.i a0.Round, .sl .no 1 (a0.Notches.map cI), .sl .no 1 (a0.Coins.map cI)]), (4, .ep [.i a1.Place, .i a1.Credit]), (6, .ptr (g + 2) 0), (11, .b (decide (a2 ≥ 0)))] (.k (.k (.k (.k (.k .nil))))) ?_
 rcases Bool.eq_false_or_eq_true (decide (a2 ≥ 0)) with hb1 | hb1
 ·replace hM := ifT hM hb1
  refine w_condT (e := (decide (a2 ≥ 0))) rfl hb1 ?_
  refine r_seq ?_
  have hS0 := hS
  refine r_draw (n := 14) rfl (by kernel_rfl) ?_
  refine o_loadE (v := .agg [.i a0.Round, .sl .no 1 (a0.Notches.map cI), .sl .no 1 (a0.Coins.map cI)]) (by decide) rfl (part_agg ty_agg24 (Nat.le_of_ble_eq_true rfl) rfl) ?_
  refine o_fieldE (cs := [.i a1.Place, .i a1.Credit]) (by decide) ty_fo57_0 rfl ?_
  refine o_loadE (v := .i a1.Place) (by decide) rfl (part_one ty_agg3 ty_sc3 rfl) ?_
  refine o_fieldE (cs := [.i a0.Round, .sl .no 1 (a0.Notches.map cI), .sl .no 1 (a0.Coins.map cI)]) (by decide) ty_fo24_2 rfl ?_
  refine o_loadE (v := .sl .no 1 (a0.Coins.map cI)) (by decide) rfl (part_one ty_agg22 ty_sc22 rfl) ?_
  refine o_move (v := .i a2) (by decide) rfl ?_
  obtain ⟨x2, hx2, hM⟩ := bindE hM
  refine o_index (xs := a0.Coins) (f := cI) (z := a2) (u := x2) (by decide) rfl rfl ty_es22 hx2 ?_
  refine o_loadE (v := .i x2) (by decide) rfl (part_one ty_agg3 ty_sc3 rfl) ?_
  obtain ⟨r3, hr3, hM⟩ := bindE hM
  refine o_call (bs := [.agg [.i a0.Round, .sl .no 1 (a0.Notches.map cI), .sl .no 1 (a0.Coins.map cI)], .i a1.Place, .i x2]) (by decide) rfl rfl ((W_ref01_Put hr3).le (.k (.k (.k .nil)))) ?_
  refine o_move (v := .tup [.i r3.1, .i r3.2]) (by decide) rfl ?_
  refine o_extract (v := .i r3.1) (by decide) rfl rfl ?_
  refine o_extract (v := .i r3.2) (by decide) rfl rfl ?_
  refine o_assign (v := .i r3.1) (by decide) rfl ?_
  refine o_assign (v := .i r3.2) (by decide) rfl ?_
  refine run_nil ?_
  refine w_next [(4, .ep [.i a1.Place, .i a1.Credit]), (6, .ptr (g + 2) 0), (8, .i r3.1), (9, .i r3.2)] (.k (.k (.k (.k .nil)))) ?_
  refine r_seq ?_
  refine r_region (n := 8) rfl ?_
  refine o_move (v := .i r3.1) (by decide) rfl ?_
  refine o_fieldE (cs := [.i a1.Place, .i a1.Credit]) (by decide) ty_fo57_1 rfl ?_
  refine o_loadE (v := .i a1.Credit) (by decide) rfl (part_one ty_agg3 ty_sc3 rfl) ?_
  refine o_move (v := .i r3.2) (by decide) rfl ?_
  refine o_int (v := .i (w64 (a1.Credit + r3.2))) (by decide) rfl rfl rfl ?_
  refine o_build (cs := [.i r3.1, .i (w64 (a1.Credit + r3.2))]) (by decide) ty_zero57 ty_pl57 rfl ?_
  refine o_store (v := .agg [.i r3.1, .i (w64 (a1.Credit + r3.2))]) (ns := [.i r3.1, .i (w64 (a1.Credit + r3.2))]) (L' := [(g + 2, .cells [.i r3.1, .i (w64 (a1.Credit + r3.2))])]) 0 hS rfl rfl .no rfl rfl ty_var57 (Nat.le_of_ble_eq_true rfl) rfl fun H hS => ?_
  refine o_assign (v := .b false) (by decide) rfl ?_
  refine run_nil ?_
  refine w_next [(6, .ptr (g + 2) 0), (7, .b false)] (.k (.k .nil)) ?_
  refine r_ret ?_
  refine r_then_ret ?_
  refine w_end (x := .tup [.agg [.i r3.1, .i (w64 (a1.Credit + r3.2))], .b false]) (f := fun r => .tup [.agg [.i r.1.Place, .i r.1.Credit], .b r.2]) (.inr rfl) ?_ (.refl _) (Option.some.inj hM) hS
  exact (res_two (res_cell (x := .agg [.i r3.1, .i (w64 (a1.Credit + r3.2))]) 0 hS rfl rfl (part_agg ty_agg57 (Nat.le_of_ble_eq_true rfl) rfl)) (res_tmp (x := .b false) rfl))
 ·replace hM := ifF hM hb1
  refine w_condF (e := (decide (a2 ≥ 0))) rfl hb1 ?_
  refine r_skip ?_
  refine w_next [(4, .ep [.i a1.Place, .i a1.Credit]), (6, .ptr (g + 2) 0)] (.k (.k .nil)) ?_
  refine r_seq ?_
  refine r_seq ?_
  refine r_region (n := 3) rfl ?_
  refine o_fieldE (cs := [.i a1.Place, .i a1.Credit]) (by decide) ty_fo57_1 rfl ?_
  refine o_loadE (v := .i a1.Credit) (by decide) rfl (part_one ty_agg3 ty_sc3 rfl) ?_
  refine o_int (v := .b (a1.Credit == 0)) (by decide) rfl rfl rfl ?_
  refine run_nil ?_
  refine w_next [(4, .ep [.i a1.Place, .i a1.Credit]), (6, .ptr (g + 2) 0), (32, .b (a1.Credit == 0))] (.k (.k (.k .nil))) ?_
  rcases Bool.eq_false_or_eq_true (a1.Credit == 0) with hb4 | hb4
  ·replace hM := ifT hM hb4
   refine w_condT (e := (a1.Credit == 0)) rfl hb4 ?_
   refine r_seq ?_
   refine r_region (n := 3) rfl ?_
   refine o_loadE (v := .agg [.i a1.Place, .i a1.Credit]) (by decide) rfl (part_agg ty_agg57 (Nat.le_of_ble_eq_true rfl) rfl) ?_
   refine o_store (v := .agg [.i a1.Place, .i a1.Credit]) (ns := [.i a1.Place, .i a1.Credit]) (L' := [(g + 2, .cells [.i a1.Place, .i a1.Credit])]) 0 hS rfl rfl .no rfl rfl ty_var57 (Nat.le_of_ble_eq_true rfl) rfl fun H hS => ?_
   refine o_assign (v := .b false) (by decide) rfl ?_
   refine run_nil ?_
   refine w_next [(6, .ptr (g + 2) 0), (7, .b false)] (.k (.k .nil)) ?_
   refine r_ret ?_
   refine r_then_ret ?_
   refine w_end (x := .tup [.agg [.i a1.Place, .i a1.Credit], .b false]) (f := fun r => .tup [.agg [.i r.1.Place, .i r.1.Credit], .b r.2]) (.inr rfl) ?_ (.refl _) (Option.some.inj hM) hS
   exact (res_two (res_cell (x := .agg [.i a1.Place, .i a1.Credit]) 0 hS rfl rfl (part_agg ty_agg57 (Nat.le_of_ble_eq_true rfl) rfl)) (res_tmp (x := .b false) rfl))
  ·replace hM := ifF hM hb4
   refine w_condF (e := (a1.Credit == 0)) rfl hb4 ?_
   refine r_skip ?_
   refine w_next [(4, .ep [.i a1.Place, .i a1.Credit]), (6, .ptr (g + 2) 0)] (.k (.k .nil)) ?_
   refine r_seq ?_
   refine r_region (n := 6) rfl ?_
   refine o_fieldE (cs := [.i a1.Place, .i a1.Credit]) (by decide) ty_fo57_1 rfl ?_
   refine o_loadE (v := .i a1.Credit) (by decide) rfl (part_one ty_agg3 ty_sc3 rfl) ?_
   refine o_int (v := .i (w64 (a1.Credit - 1))) (by decide) rfl rfl rfl ?_
   refine o_build (cs := [.i 0, .i (w64 (a1.Credit - 1))]) (by decide) ty_zero57 ty_pl57 rfl ?_
   refine o_store (v := .agg [.i 0, .i (w64 (a1.Credit - 1))]) (ns := [.i 0, .i (w64 (a1.Credit - 1))]) (L' := [(g + 2, .cells [.i 0, .i (w64 (a1.Credit - 1))])]) 0 hS rfl rfl .no rfl rfl ty_var57 (Nat.le_of_ble_eq_true rfl) rfl fun H hS => ?_
   refine o_assign (v := .b true) (by decide) rfl ?_
   refine run_nil ?_
   refine w_next [(6, .ptr (g + 2) 0), (7, .b true)] (.k (.k .nil)) ?_
   refine r_ret ?_
   refine w_end (x := .tup [.agg [.i 0, .i (w64 (a1.Credit - 1))], .b true]) (f := fun r => .tup [.agg [.i r.1.Place, .i r.1.Credit], .b r.2]) (.inr rfl) ?_ (.refl _) (Option.some.inj hM) hS
   exact (res_two (res_cell (x := .agg [.i 0, .i (w64 (a1.Credit - 1))]) 0 hS rfl rfl (part_agg ty_agg57 (Nat.le_of_ble_eq_true rfl) rfl)) (res_tmp (x := .b true) rfl))
theorem W_ref01_Run {n : Nat} {a0 : Wheel} {a1 : Stand} {a2 : List Int} {r : Stand × Int × Int} (hM : ref01_Run n a0 a1 a2 = some r) : PureSat Try.prog 41 [.agg [.i a0.Round, .sl .no 1 (a0.Notches.map cI), .sl .no 1 (a0.Coins.map cI)], .agg [.i a1.Place, .i a1.Credit], .sl .no 1 (a2.map cI)] (.tup [.agg [.i r.1.Place, .i r.1.Credit], .i r.2.1, .i r.2.2]) := by
 refine pure_of_wp mixed Try.func41 rfl (by decide) Try.ntmps41 (by simp) ?pure fun H0 g hf => ?_
 case pure => exact .tup _ (pl_cons (.agg _ (pl_cons (.v _) (pl_cons (.v _) pl_nil))) (pl_cons (.v _) (pl_cons (.v _) pl_nil)))
 rw [frame0_of]
 change wpA _ _ _ _ (Fr.of [(0, .agg [.i a0.Round, .sl .no 1 (a0.Notches.map cI), .sl .no 1 (a0.Coins.map cI)]), (1, .agg [.i a1.Place, .i a1.Credit]), (2, .sl .no 1 (a2.map cI))]) H0 g
 have hS := St.start hf
 refine r_seq ?_
 refine r_region (n := 5) rfl ?_
 refine o_box (v := .agg [.i a0.Round, .sl .no 1 (a0.Notches.map cI), .sl .no 1 (a0.Coins.map cI)]) (cs := [.i a0.Round, .sl .no 1 (a0.Notches.map cI), .sl .no 1 (a0.Coins.map cI)]) hS (by decide) rfl rfl (by omega) fun H hS => ?_
 refine o_box (v := .agg [.i a1.Place, .i a1.Credit]) (cs := [.i a1.Place, .i a1.Credit]) hS (by decide) rfl rfl (by omega) fun H hS => ?_
 refine o_alloc hS (by decide) ty_zero57 (by omega) fun H hS => ?_
 refine o_assign (v := .i 0) (by decide) rfl ?_
 refine o_assign (v := .i 0) (by decide) rfl ?_
 refine run_nil ?_
 refine w_iceE (L' := [(g + 2, .cells [.i 0, .i 0]), (g + 1, .cells [.i a1.Place, .i a1.Credit])]) 2 3 hS rfl rfl rfl fun H hS => ?_
 refine w_next [(2, .sl .no 1 (a2.map cI)), (3, .ep [.i a0.Round, .sl .no 1 (a0.Notches.map cI), .sl .no 1 (a0.Coins.map cI)]), (4, .ptr (g + 1) 0), (6, .ptr (g + 2) 0), (7, .i 0)] (.k (.k (.k (.k (.k .nil))))) ?_
 refine r_seq ?_
 refine r_seq ?_
 refine r_region (n := 3) rfl ?_
 refine o_loadE (v := .agg [.i a0.Round, .sl .no 1 (a0.Notches.map cI), .sl .no 1 (a0.Coins.map cI)]) (by decide) rfl (part_agg ty_agg24 (Nat.le_of_ble_eq_true rfl) rfl) ?_
 obtain ⟨r1, hr1, hM⟩ := bindE hM
 refine o_call (bs := [.agg [.i a0.Round, .sl .no 1 (a0.Notches.map cI), .sl .no 1 (a0.Coins.map cI)]]) (by decide) rfl rfl ((W_ref01_Check hr1).le (.k .nil)) ?_
 refine o_assign (v := .i r1) (by decide) rfl ?_
 refine run_nil ?_
 refine w_next [(2, .sl .no 1 (a2.map cI)), (3, .ep [.i a0.Round, .sl .no 1 (a0.Notches.map cI), .sl .no 1 (a0.Coins.map cI)]), (4, .ptr (g + 1) 0), (6, .ptr (g + 2) 0), (7, .i 0), (9, .i r1)] (.k (.k (.k (.k (.k (.k .nil)))))) ?_
 refine r_seq ?_
 refine r_region (n := 2) rfl ?_
 refine o_move (v := .i r1) (by decide) rfl ?_
 refine o_int (v := .b (r1 != 0)) (by decide) rfl rfl rfl ?_
 refine run_nil ?_
 refine w_next [(2, .sl .no 1 (a2.map cI)), (3, .ep [.i a0.Round, .sl .no 1 (a0.Notches.map cI), .sl .no 1 (a0.Coins.map cI)]), (4, .ptr (g + 1) 0), (6, .ptr (g + 2) 0), (7, .i 0), (9, .i r1), (16, .b (r1 != 0))] (.k (.k (.k (.k (.k (.k (.k .nil))))))) ?_
 rcases Bool.eq_false_or_eq_true (r1 != 0) with hb2 | hb2
 ·replace hM := ifT hM hb2
  refine w_condT (e := (r1 != 0)) rfl hb2 ?_
  refine r_seq ?_
  refine r_region (n := 5) rfl ?_
  refine o_build (cs := [.i 0, .i 0]) (by decide) ty_zero57 ty_pl57 rfl ?_
  refine o_move (v := .i r1) (by decide) rfl ?_
  refine o_store (v := .agg [.i 0, .i 0]) (ns := [.i 0, .i 0]) (L' := [(g + 2, .cells [.i 0, .i 0]), (g + 1, .cells [.i a1.Place, .i a1.Credit])]) 0 hS rfl rfl .no rfl rfl ty_var57 (Nat.le_of_ble_eq_true rfl) rfl fun H hS => ?_
  refine o_assign (v := .i 0) (by decide) rfl ?_
  refine o_assign (v := .i r1) (by decide) rfl ?_
  refine run_nil ?_
  replace hS := hS.keep (L' := [(g + 2, .cells [.i 0, .i 0])]) [true, false] rfl
  refine w_next [(6, .ptr (g + 2) 0), (7, .i 0), (8, .i r1)] (.k (.k (.k .nil))) ?_
  refine r_ret ?_
  refine r_then_ret ?_
  refine w_end (x := .tup [.agg [.i 0, .i 0], .i 0, .i r1]) (f := fun r => .tup [.agg [.i r.1.Place, .i r.1.Credit], .i r.2.1, .i r.2.2]) (.inr rfl) ?_ (.refl _) (Option.some.inj hM) hS
  exact (res_three (res_cell (x := .agg [.i 0, .i 0]) 0 hS rfl rfl (part_agg ty_agg57 (Nat.le_of_ble_eq_true rfl) rfl)) (res_tmp (x := .i 0) rfl) (res_tmp (x := .i r1) rfl))
 ·replace hM := ifF hM hb2
  refine w_condF (e := (r1 != 0)) rfl hb2 ?_
  refine r_skip ?_
  refine w_next [(2, .sl .no 1 (a2.map cI)), (3, .ep [.i a0.Round, .sl .no 1 (a0.Notches.map cI), .sl .no 1 (a0.Coins.map cI)]), (4, .ptr (g + 1) 0), (6, .ptr (g + 2) 0), (7, .i 0)] (.k (.k (.k (.k (.k .nil))))) ?_
  refine r_seq ?_
  refine w_join (J := Bool) (fun j => [(2, .sl .no 1 (a2.map cI)), (3, .ep [.i a0.Round, .sl .no 1 (a0.Notches.map cI), .sl .no 1 (a0.Coins.map cI)]), (4, .ptr (g + 1) 0), (6, .ptr (g + 2) 0), (7, .i 0), (28, .b j)]) (fun j H' g' => St (· < g) H0 [(g + 2, .cells [.i 0, .i 0]), (g + 1, .cells [.i a1.Place, .i a1.Credit])] H' g' ∧ ref01_Run_j1 n a0 a1 a2 j = some r) ?_ ?_
  ·rintro v3 H g1 ⟨hS, hM⟩
   change wpA _ _ _ _ (Fr.of [(2, .sl .no 1 (a2.map cI)), (3, .ep [.i a0.Round, .sl .no 1 (a0.Notches.map cI), .sl .no 1 (a0.Coins.map cI)]), (4, .ptr (g + 1) 0), (6, .ptr (g + 2) 0), (7, .i 0), (28, .b v3)]) _ _
   replace hS : St (· < g) H0 [(g + 2, .cells [.i 0, .i 0]), (g + 1, .cells [.i a1.Place, .i a1.Credit])] H g1 := hS
   replace hM : ref01_Run_j1 n a0 a1 a2 v3 = some r := hM
   rcases Bool.eq_false_or_eq_true v3 with hb4 | hb4
   ·replace hM := ifT hM hb4
    refine w_condT (e := v3) rfl hb4 ?_
    refine r_seq ?_
    refine r_region (n := 4) rfl ?_
    refine o_build (cs := [.i 0, .i 0]) (by decide) ty_zero57 ty_pl57 rfl ?_
    refine o_store (v := .agg [.i 0, .i 0]) (ns := [.i 0, .i 0]) (L' := [(g + 2, .cells [.i 0, .i 0]), (g + 1, .cells [.i a1.Place, .i a1.Credit])]) 0 hS rfl rfl .no rfl rfl ty_var57 (Nat.le_of_ble_eq_true rfl) rfl fun H hS => ?_
    refine o_assign (v := .i 0) (by decide) rfl ?_
    refine o_assign (v := .i 1) (by decide) rfl ?_
    refine run_nil ?_
    replace hS := hS.keep (L' := [(g + 2, .cells [.i 0, .i 0])]) [true, false] rfl
    refine w_next [(6, .ptr (g + 2) 0), (7, .i 0), (8, .i 1)] (.k (.k (.k .nil))) ?_
    refine r_ret ?_
    refine r_then_ret ?_
    refine w_end (x := .tup [.agg [.i 0, .i 0], .i 0, .i 1]) (f := fun r => .tup [.agg [.i r.1.Place, .i r.1.Credit], .i r.2.1, .i r.2.2]) (.inr rfl) ?_ (.refl _) (Option.some.inj hM) hS
    exact (res_three (res_cell (x := .agg [.i 0, .i 0]) 0 hS rfl rfl (part_agg ty_agg57 (Nat.le_of_ble_eq_true rfl) rfl)) (res_tmp (x := .i 0) rfl) (res_tmp (x := .i 1) rfl))
   ·replace hM := ifF hM hb4
    refine w_condF (e := v3) rfl hb4 ?_
    refine r_skip ?_
    refine w_next [(2, .sl .no 1 (a2.map cI)), (3, .ep [.i a0.Round, .sl .no 1 (a0.Notches.map cI), .sl .no 1 (a0.Coins.map cI)]), (4, .ptr (g + 1) 0), (6, .ptr (g + 2) 0), (7, .i 0)] (.k (.k (.k (.k (.k .nil))))) ?_
    refine w_join (J := Int × Int × Int) (fun j => [(4, .ptr (g + 1) 0), (6, .ptr (g + 2) 0), (7, .i j.1)]) (fun j H' g' => St (· < g) H0 [(g + 2, .cells [.i 0, .i 0]), (g + 1, .cells [.i j.2.1, .i j.2.2])] H' g' ∧ ref01_Run_j2 j.1 j.2.1 j.2.2 = some r) ?_ ?_
    ·rintro ⟨v5, v6, v7⟩ H g2 ⟨hS, hM⟩
     change wpA _ _ _ _ (Fr.of [(4, .ptr (g + 1) 0), (6, .ptr (g + 2) 0), (7, .i v5)]) _ _
     replace hS : St (· < g) H0 [(g + 2, .cells [.i 0, .i 0]), (g + 1, .cells [.i v6, .i v7])] H g2 := hS
     replace hM : ref01_Run_j2 v5 v6 v7 = some r := hM
     refine r_seq ?_
     refine r_region (n := 5) rfl ?_
     refine o_load (v := .agg [.i v6, .i v7]) 1 hS (by decide) rfl rfl .no (part_agg ty_agg57 (Nat.le_of_ble_eq_true rfl) rfl) ?_
     refine o_move (v := .i v5) (by decide) rfl ?_
     refine o_store (v := .agg [.i v6, .i v7]) (ns := [.i v6, .i v7]) (L' := [(g + 2, .cells [.i v6, .i v7]), (g + 1, .cells [.i v6, .i v7])]) 0 hS rfl rfl .no rfl rfl ty_var57 (Nat.le_of_ble_eq_true rfl) rfl fun H hS => ?_
     refine o_assign (v := .i v5) (by decide) rfl ?_
     refine o_assign (v := .i 0) (by decide) rfl ?_
     refine run_nil ?_
     replace hS := hS.keep (L' := [(g + 2, .cells [.i v6, .i v7])]) [true, false] rfl
     refine w_next [(6, .ptr (g + 2) 0), (7, .i v5), (8, .i 0)] (.k (.k (.k .nil))) ?_
     refine r_ret ?_
     refine w_end (x := .tup [.agg [.i v6, .i v7], .i v5, .i 0]) (f := fun r => .tup [.agg [.i r.1.Place, .i r.1.Credit], .i r.2.1, .i r.2.2]) (.inr rfl) ?_ (.refl _) (Option.some.inj hM) hS
     exact (res_three (res_cell (x := .agg [.i v6, .i v7]) 0 hS rfl rfl (part_agg ty_agg57 (Nat.le_of_ble_eq_true rfl) rfl)) (res_tmp (x := .i v5) rfl) (res_tmp (x := .i 0) rfl))
    ·refine r_seq ?_
     refine r_region (n := 1) rfl ?_
     refine o_assign (v := .i 0) (by decide) rfl ?_
     refine run_nil ?_
     refine w_next [(2, .sl .no 1 (a2.map cI)), (3, .ep [.i a0.Round, .sl .no 1 (a0.Notches.map cI), .sl .no 1 (a0.Coins.map cI)]), (4, .ptr (g + 1) 0), (6, .ptr (g + 2) 0), (7, .i 0), (10, .i 0)] (.k (.k (.k (.k (.k (.k .nil)))))) ?_
     refine r_block ?_
     refine w_loop (V := Int × Int × Int × Int) (fun v => [(2, .sl .no 1 (a2.map cI)), (3, .ep [.i a0.Round, .sl .no 1 (a0.Notches.map cI), .sl .no 1 (a0.Coins.map cI)]), (4, .ptr (g + 1) 0), (6, .ptr (g + 2) 0), (7, .i v.1), (10, .i v.2.1)]) (fun v m4 H' g' => St (· < g) H0 [(g + 2, .cells [.i 0, .i 0]), (g + 1, .cells [.i v.2.2.1, .i v.2.2.2])] H' g' ∧ ref01_Run_l1 n a0 a2 m4 v.1 v.2.1 v.2.2.1 v.2.2.2 = some r) (n := n) (0, 0, a1.Place, a1.Credit) (.k (.k (.k (.k (.k (.k .nil)))))) ⟨(hS.keep [true, true] rfl).up (by omega), hM⟩ ?_
     rintro ⟨v10, v11, v12, v13⟩ m4 H g4 ⟨hS, hM⟩
     obtain _ | m4 := m4
     ·exact nomatch (show none = some _ from hM)
     change wpA _ _ _ _ (Fr.of [(2, .sl .no 1 (a2.map cI)), (3, .ep [.i a0.Round, .sl .no 1 (a0.Notches.map cI), .sl .no 1 (a0.Coins.map cI)]), (4, .ptr (g + 1) 0), (6, .ptr (g + 2) 0), (7, .i v10), (10, .i v11)]) _ _
     replace hS : St (· < g) H0 [(g + 2, .cells [.i 0, .i 0]), (g + 1, .cells [.i v12, .i v13])] H g4 := hS
     replace hM : ref01_Run_l1_b n a0 a2 (ref01_Run_l1 n a0 a2 m4) v10 v11 v12 v13 = some r := hM
     refine r_seq ?_
     refine r_seq ?_
     refine r_region (n := 4) rfl ?_
     refine o_move (v := .i v11) (by decide) rfl ?_
     refine o_move (v := .sl .no 1 (a2.map cI)) (by decide) rfl ?_
     refine o_len (n := a2.length) (by decide) rfl (List.length_map _) ty_isl22 ?_
     refine o_int (v := .b (decide (v11 < (a2.length : Int)))) (by decide) rfl rfl rfl ?_
     refine run_nil ?_
     refine w_next [(2, .sl .no 1 (a2.map cI)), (3, .ep [.i a0.Round, .sl .no 1 (a0.Notches.map cI), .sl .no 1 (a0.Coins.map cI)]), (4, .ptr (g + 1) 0), (6, .ptr (g + 2) 0), (7, .i v10), (10, .i v11), (33, .b (decide (v11 < (a2.length : Int))))] (.k (.k (.k (.k (.k (.k (.k .nil))))))) ?_
     rcases Bool.eq_false_or_eq_true (decide (v11 < (a2.length : Int))) with hb14 | hb14
     ·replace hM := ifT hM hb14
      refine w_condT (e := (decide (v11 < (a2.length : Int)))) rfl hb14 ?_
      refine r_skip ?_
      refine w_next [(2, .sl .no 1 (a2.map cI)), (3, .ep [.i a0.Round, .sl .no 1 (a0.Notches.map cI), .sl .no 1 (a0.Coins.map cI)]), (4, .ptr (g + 1) 0), (6, .ptr (g + 2) 0), (7, .i v10), (10, .i v11)] (.k (.k (.k (.k (.k (.k .nil)))))) ?_
      refine w_join (J := Int × Int × Int) (fun j => [(2, .sl .no 1 (a2.map cI)), (3, .ep [.i a0.Round, .sl .no 1 (a0.Notches.map cI), .sl .no 1 (a0.Coins.map cI)]), (4, .ptr (g + 1) 0), (6, .ptr (g + 2) 0), (7, .i j.1), (10, .i v11)]) (fun j H' g' => St (· < g) H0 [(g + 2, .cells [.i 0, .i 0]), (g + 1, .cells [.i j.2.1, .i j.2.2])] H' g' ∧ ref01_Run_j3 (ref01_Run_l1 n a0 a2 m4) v11 j.1 j.2.1 j.2.2 = some r) ?_ ?_
      ·rintro ⟨v15, v16, v17⟩ H g5 ⟨hS, hM⟩
       change wpA _ _ _ _ (Fr.of [(2, .sl .no 1 (a2.map cI)), (3, .ep [.i a0.Round, .sl .no 1 (a0.Notches.map cI), .sl .no 1 (a0.Coins.map cI)]), (4, .ptr (g + 1) 0), (6, .ptr (g + 2) 0), (7, .i v15), (10, .i v11)]) _ _
       replace hS : St (· < g) H0 [(g + 2, .cells [.i 0, .i 0]), (g + 1, .cells [.i v16, .i v17])] H g5 := hS
       replace hM : ref01_Run_j3 (ref01_Run_l1 n a0 a2 m4) v11 v15 v16 v17 = some r := hM
       refine r_region (n := 3) rfl ?_
       refine o_move (v := .i v11) (by decide) rfl ?_
       refine o_int (v := .i (w64 (v11 + 1))) (by decide) rfl rfl rfl ?_
       refine o_assign (v := .i (w64 (v11 + 1))) (by decide) rfl ?_
       refine run_nil ?_
       exact w_round (v15, w64 (v11 + 1), v16, v17) (Nat.lt_succ_self _) (.k (.k (.k (.k (.k (.k .nil)))))) ⟨(hS.keep [true, true] rfl).up (by omega), hM⟩
      ·refine r_block ?_
       refine r_seq ?_
       have hS0 := hS
       refine r_draw (n := 13) rfl (by kernel_rfl) ?_
       refine o_loadE (v := .agg [.i a0.Round, .sl .no 1 (a0.Notches.map cI), .sl .no 1 (a0.Coins.map cI)]) (by decide) rfl (part_agg ty_agg24 (Nat.le_of_ble_eq_true rfl) rfl) ?_
       refine o_load (v := .agg [.i v12, .i v13]) 1 hS (by decide) rfl rfl (.st hS0 1 rfl (by omega)) (part_agg ty_agg57 (Nat.le_of_ble_eq_true rfl) rfl) ?_
       refine o_move (v := .sl .no 1 (a2.map cI)) (by decide) rfl ?_
       refine o_move (v := .i v11) (by decide) rfl ?_
       obtain ⟨x18, hx18, hM⟩ := bindE hM
       refine o_index (xs := a2) (f := cI) (z := v11) (u := x18) (by decide) rfl rfl ty_es22 hx18 ?_
       refine o_loadE (v := .i x18) (by decide) rfl (part_one ty_agg3 ty_sc3 rfl) ?_
       obtain ⟨r19, hr19, hM⟩ := bindE hM
       refine o_call (bs := [.agg [.i a0.Round, .sl .no 1 (a0.Notches.map cI), .sl .no 1 (a0.Coins.map cI)], .agg [.i v12, .i v13], .i x18]) (by decide) rfl rfl ((W_ref01_Act hr19).le (.k (.k (.k .nil)))) ?_
       refine o_move (v := .tup [.agg [.i r19.1.Place, .i r19.1.Credit], .b r19.2]) (by decide) rfl ?_
       refine o_extract (v := .agg [.i r19.1.Place, .i r19.1.Credit]) (by decide) rfl rfl ?_
       refine o_extract (v := .b r19.2) (by decide) rfl rfl ?_
       refine o_alloc hS (by decide) ty_zero57 (by omega) fun H hS => ?_
       refine o_store (v := .agg [.i r19.1.Place, .i r19.1.Credit]) (ns := [.i r19.1.Place, .i r19.1.Credit]) (L' := [(g4 + 4 + 10, .cells [.i r19.1.Place, .i r19.1.Credit]), (g + 2, .cells [.i 0, .i 0]), (g + 1, .cells [.i v12, .i v13])]) 0 hS rfl rfl (.behind (by kernel_rfl)) rfl rfl ty_var57 (Nat.le_of_ble_eq_true rfl) rfl fun H hS => ?_
       refine o_assign (v := .b r19.2) (by decide) rfl ?_
       refine run_nil ?_
       refine w_iceE (L' := [(g + 2, .cells [.i 0, .i 0]), (g + 1, .cells [.i v12, .i v13])]) 0 11 hS rfl rfl rfl fun H hS => ?_
       refine w_next [(2, .sl .no 1 (a2.map cI)), (3, .ep [.i a0.Round, .sl .no 1 (a0.Notches.map cI), .sl .no 1 (a0.Coins.map cI)]), (4, .ptr (g + 1) 0), (6, .ptr (g + 2) 0), (7, .i v10), (10, .i v11), (11, .ep [.i r19.1.Place, .i r19.1.Credit]), (12, .b r19.2)] (.k (.k (.k (.k (.k (.k (.k (.k .nil)))))))) ?_
       refine r_seq ?_
       refine r_region (n := 2) rfl ?_
       refine o_loadE (v := .agg [.i r19.1.Place, .i r19.1.Credit]) (by decide) rfl (part_agg ty_agg57 (Nat.le_of_ble_eq_true rfl) rfl) ?_
       refine o_store (v := .agg [.i r19.1.Place, .i r19.1.Credit]) (ns := [.i r19.1.Place, .i r19.1.Credit]) (L' := [(g + 2, .cells [.i 0, .i 0]), (g + 1, .cells [.i r19.1.Place, .i r19.1.Credit])]) 1 hS rfl rfl .no rfl rfl ty_var57 (Nat.le_of_ble_eq_true rfl) rfl fun H hS => ?_
       refine run_nil ?_
       refine w_next [(2, .sl .no 1 (a2.map cI)), (3, .ep [.i a0.Round, .sl .no 1 (a0.Notches.map cI), .sl .no 1 (a0.Coins.map cI)]), (4, .ptr (g + 1) 0), (6, .ptr (g + 2) 0), (7, .i v10), (10, .i v11), (12, .b r19.2)] (.k (.k (.k (.k (.k (.k (.k .nil))))))) ?_
       refine r_seq ?_
       refine r_region (n := 1) rfl ?_
       refine o_move (v := .b r19.2) (by decide) rfl ?_
       refine run_nil ?_
       refine w_next [(2, .sl .no 1 (a2.map cI)), (3, .ep [.i a0.Round, .sl .no 1 (a0.Notches.map cI), .sl .no 1 (a0.Coins.map cI)]), (4, .ptr (g + 1) 0), (6, .ptr (g + 2) 0), (7, .i v10), (10, .i v11), (47, .b r19.2)] (.k (.k (.k (.k (.k (.k (.k .nil))))))) ?_
       rcases Bool.eq_false_or_eq_true r19.2 with hb20 | hb20
       ·replace hM := ifT hM hb20
        refine w_condT (e := r19.2) rfl hb20 ?_
        refine r_region (n := 3) rfl ?_
        refine o_move (v := .i v10) (by decide) rfl ?_
        refine o_int (v := .i (w64 (v10 + 1))) (by decide) rfl rfl rfl ?_
        refine o_assign (v := .i (w64 (v10 + 1))) (by decide) rfl ?_
        refine run_nil ?_
        refine r_blk_normal ?_
        exact w_goto (w64 (v10 + 1), r19.1.Place, r19.1.Credit) (.k (.k (.k (.k (.k (.k .nil)))))) ⟨(hS.keep [true, true] rfl).up (by omega), hM⟩
       ·replace hM := ifF hM hb20
        refine w_condF (e := r19.2) rfl hb20 ?_
        refine r_skip ?_
        refine r_blk_normal ?_
        exact w_goto (v10, r19.1.Place, r19.1.Credit) (.k (.k (.k (.k (.k (.k .nil)))))) ⟨(hS.keep [true, true] rfl).up (by omega), hM⟩
     ·replace hM := ifF hM hb14
      refine w_condF (e := (decide (v11 < (a2.length : Int)))) rfl hb14 ?_
      refine r_exit ?_
      refine r_then_exit ?_
      refine w_round_exit ?_
      refine r_blk_exit ?_
      exact w_goto (v10, v12, v13) (.k (.k (.k .nil))) ⟨(hS.keep [true, true] rfl).up (by omega), hM⟩
  ·refine r_region (n := 10) rfl ?_
   refine o_loadE (v := .agg [.i a0.Round, .sl .no 1 (a0.Notches.map cI), .sl .no 1 (a0.Coins.map cI)]) (by decide) rfl (part_agg ty_agg24 (Nat.le_of_ble_eq_true rfl) rfl) ?_
   refine o_load (v := .agg [.i a1.Place, .i a1.Credit]) 1 hS (by decide) rfl rfl .no (part_agg ty_agg57 (Nat.le_of_ble_eq_true rfl) rfl) ?_
   obtain ⟨r21, hr21, hM⟩ := bindE hM
   refine o_call (bs := [.agg [.i a0.Round, .sl .no 1 (a0.Notches.map cI), .sl .no 1 (a0.Coins.map cI)], .agg [.i a1.Place, .i a1.Credit]]) (by decide) rfl rfl ((W_ref01_IsStand hr21).le (.k (.k .nil))) ?_
   refine o_not (e := r21) (by decide) rfl ?_
   refine o_move (v := .b (!r21)) (by decide) rfl ?_
   rcases Bool.eq_false_or_eq_true (!r21) with hb22 | hb22
   ·replace hM := ifT hM hb22
    refine o_guardN (j := 4) (e := (!r21)) (want := false) (by decide) rfl hb22 ?_
    refine o_guardN (j := 4) (e := (!r21)) (want := false) (by decide) rfl hb22 ?_
    refine o_guardN (j := 4) (e := (!r21)) (want := false) (by decide) rfl hb22 ?_
    refine o_guardN (j := 4) (e := (!r21)) (want := false) (by decide) rfl hb22 ?_
    refine o_pickT (v := .b true) (e := (!r21)) (by decide) rfl hb22 rfl ?_
    refine run_nil ?_
    exact w_goto true (.k (.k (.k (.k (.k (.k .nil)))))) ⟨(hS.keep [true, true] rfl).up (by omega), hM⟩
   ·replace hM := ifF hM hb22
    refine o_guardY (j := 4) (e := (!r21)) (want := false) rfl hb22 ?_
    refine o_loadE (v := .agg [.i a0.Round, .sl .no 1 (a0.Notches.map cI), .sl .no 1 (a0.Coins.map cI)]) (by decide) rfl (part_agg ty_agg24 (Nat.le_of_ble_eq_true rfl) rfl) ?_
    refine o_guardY (j := 4) (e := (!r21)) (want := false) rfl hb22 ?_
    refine o_move (v := .sl .no 1 (a2.map cI)) (by decide) rfl ?_
    refine o_guardY (j := 4) (e := (!r21)) (want := false) rfl hb22 ?_
    obtain ⟨r23, hr23, hM⟩ := bindE hM
    refine o_call (bs := [.agg [.i a0.Round, .sl .no 1 (a0.Notches.map cI), .sl .no 1 (a0.Coins.map cI)], .sl .no 1 (a2.map cI), .i (-1)]) (by decide) rfl rfl ((W_ref01_AreKinds hr23).le (.k (.k (.k .nil)))) ?_
    refine o_guardY (j := 4) (e := (!r21)) (want := false) rfl hb22 ?_
    refine o_not (e := r23) (by decide) rfl ?_
    refine o_pickF (v := .b (!r23)) (e := (!r21)) (by decide) rfl hb22 rfl ?_
    refine run_nil ?_
    exact w_goto (!r23) (.k (.k (.k (.k (.k (.k .nil)))))) ⟨(hS.keep [true, true] rfl).up (by omega), hM⟩
theorem W_coins_Plays_c1 {n : Nat} {a0 : Wheel_} {a1 : Int} {a2 : List Int} {r : Bool} (hM : coins_Plays_c1 n a0 a1 a2 = some r) : PureSat Try.prog 80 [.agg [.i a0.Wheel.Round, .sl .no 1 (a0.Wheel.Notches.map cI), .sl .no 1 (a0.Wheel.Coins.map cI)], .ep [.i a1], .ep [.sl .no 1 (a2.map cI)]] (.b r) := by
 refine pure_of_wp mixed Try.func80 rfl (by decide) Try.ntmps80 (by simp) ?pure fun H0 g hf => ?_
 case pure => exact .v _
 rw [frame0_of]
 change wpA _ _ _ _ (Fr.of [(0, .agg [.i a0.Wheel.Round, .sl .no 1 (a0.Wheel.Notches.map cI), .sl .no 1 (a0.Wheel.Coins.map cI)]), (1, .ep [.i a1]), (2, .ep [.sl .no 1 (a2.map cI)])]) H0 g
 have hS := St.start hf
 refine r_seq ?_
 refine r_region (n := 2) rfl ?_
 refine o_box (v := .agg [.i a0.Wheel.Round, .sl .no 1 (a0.Wheel.Notches.map cI), .sl .no 1 (a0.Wheel.Coins.map cI)]) (cs := [.i a0.Wheel.Round, .sl .no 1 (a0.Wheel.Notches.map cI), .sl .no 1 (a0.Wheel.Coins.map cI)]) hS (by decide) rfl rfl (by omega) fun H hS => ?_
 refine o_assign (v := .b false) (by decide) rfl ?_
 refine run_nil ?_
 refine w_iceE (L' := []) 0 3 hS rfl rfl rfl fun H hS => ?_
 refine w_next [(1, .ep [.i a1]), (2, .ep [.sl .no 1 (a2.map cI)]), (3, .ep [.i a0.Wheel.Round, .sl .no 1 (a0.Wheel.Notches.map cI), .sl .no 1 (a0.Wheel.Coins.map cI)])] (.k (.k (.k .nil))) ?_
 refine w_join (J := Bool) (fun j => [(4, .b j)]) (fun j H' g' => St (· < g) H0 [] H' g' ∧ coins_Plays_c1_j1 j = some r) ?_ ?_
 ·rintro v1 H g1 ⟨hS, hM⟩
  change wpA _ _ _ _ (Fr.of [(4, .b v1)]) _ _
  replace hS : St (· < g) H0 [] H g1 := hS
  replace hM : coins_Plays_c1_j1 v1 = some r := hM
  refine r_ret ?_
  refine w_end (x := .b v1) (f := fun r => .b r) (.inr rfl) ?_ (.refl _) (Option.some.inj hM) hS
  exact (res_one (res_tmp (x := .b v1) rfl))
 ·refine r_region (n := 10) rfl ?_
  refine o_loadE (v := .agg [.i a0.Wheel.Round, .sl .no 1 (a0.Wheel.Notches.map cI), .sl .no 1 (a0.Wheel.Coins.map cI)]) (by decide) rfl (part_agg ty_agg71 (Nat.le_of_ble_eq_true rfl) rfl) ?_
  refine o_loadE (v := .i a1) (by decide) rfl (part_one ty_agg3 ty_sc3 rfl) ?_
  obtain ⟨r2, hr2, hM⟩ := bindE hM
  refine o_call (bs := [.agg [.i a0.Wheel.Round, .sl .no 1 (a0.Wheel.Notches.map cI), .sl .no 1 (a0.Wheel.Coins.map cI)], .i a1]) (by decide) rfl rfl ((W_coins_wheel_isPlace hr2).le (.k (.k .nil))) ?_
  refine o_move (v := .b r2) (by decide) rfl ?_
  rcases Bool.eq_false_or_eq_true r2 with hb3 | hb3
  ·replace hM := ifT hM hb3
   refine o_guardY (j := 3) (e := r2) (want := true) rfl hb3 ?_
   refine o_loadE (v := .sl .no 1 (a2.map cI)) (by decide) rfl (part_one ty_agg22 ty_sc22 rfl) ?_
   refine o_guardY (j := 3) (e := r2) (want := true) rfl hb3 ?_
   refine o_loadE (v := .agg [.i a0.Wheel.Round, .sl .no 1 (a0.Wheel.Notches.map cI), .sl .no 1 (a0.Wheel.Coins.map cI)]) (by decide) rfl (part_agg ty_agg71 (Nat.le_of_ble_eq_true rfl) rfl) ?_
   refine o_guardY (j := 3) (e := r2) (want := true) rfl hb3 ?_
   refine o_makeFunc (first := [.agg [.i a0.Wheel.Round, .sl .no 1 (a0.Wheel.Notches.map cI), .sl .no 1 (a0.Wheel.Coins.map cI)]]) (cap := []) (by decide) rfl rfl ?_
   refine o_guardY (j := 3) (e := r2) (want := true) rfl hb3 ?_
   obtain ⟨r4, hr4, hM⟩ := bindE hM
   refine o_call (bs := [.sl .no 1 (a2.map cI), .fn (.func 81) [.agg [.i a0.Wheel.Round, .sl .no 1 (a0.Wheel.Notches.map cI), .sl .no 1 (a0.Wheel.Coins.map cI)]] []]) (by decide) rfl rfl (pure_of_hsat ((W_coins_all_int (Lo := (fun (_ : Unit) => []))  (fun _ _ => kl_nil) (fun _ => List.nodup_nil) (fun _ => inb_nil) (aF := (fun (x0 : Int) (_ : Unit) => (coins_wheel_isKind a0 x0).map fun y => (y, ()))) (fun _ H hH => (.fn _ _ _ (ai_cons (show Go.AM.Pure _ from .agg _ (pl_cons (.v _) (pl_cons (.sl _ _ (pures_map (fun x => (pl_cons (.v _) pl_nil)))) (pl_cons (.sl _ _ (pures_map (fun x => (pl_cons (.v _) pl_nil)))) pl_nil)))).inH ai_nil) ai_nil)) rfl (fun h => csat_val (W_coins_wheel_isKind (pure_some h))) hr4).le (.k (.k .nil)))) ?_
   refine o_pickT (v := .b r4.1) (e := r2) (by decide) rfl hb3 rfl ?_
   refine o_assign (v := .b r4.1) (by decide) rfl ?_
   refine run_nil ?_
   exact w_goto r4.1 (.k .nil) ⟨(hS.keep [] rfl).up (by omega), hM⟩
  ·replace hM := ifF hM hb3
   refine o_guardN (j := 3) (e := r2) (want := true) (by decide) rfl hb3 ?_
   refine o_guardN (j := 3) (e := r2) (want := true) (by decide) rfl hb3 ?_
   refine o_guardN (j := 3) (e := r2) (want := true) (by decide) rfl hb3 ?_
   refine o_guardN (j := 3) (e := r2) (want := true) (by decide) rfl hb3 ?_
   refine o_pickF (v := .b false) (e := r2) (by decide) rfl hb3 rfl ?_
   refine o_assign (v := .b false) (by decide) rfl ?_
   refine run_nil ?_
   exact w_goto false (.k .nil) ⟨(hS.keep [] rfl).up (by omega), hM⟩
theorem W_coins_Plays {n : Nat} {a0 : Wheel} {a1 : Int} {a2 : List Int} {r : Int × Int} (hM : coins_Plays n a0 a1 a2 = some r) : PureSat Try.prog 42 [.agg [.i a0.Round, .sl .no 1 (a0.Notches.map cI), .sl .no 1 (a0.Coins.map cI)], .i a1, .sl .no 1 (a2.map cI)] (.tup [.i r.1, .i r.2]) := by
 refine pure_of_wp mixed Try.func42 rfl (by decide) Try.ntmps42 (by simp) ?pure fun H0 g hf => ?_
 case pure => exact .tup _ (pl_cons (.v _) (pl_cons (.v _) pl_nil))
 rw [frame0_of]
 change wpA _ _ _ _ (Fr.of [(0, .agg [.i a0.Round, .sl .no 1 (a0.Notches.map cI), .sl .no 1 (a0.Coins.map cI)]), (1, .i a1), (2, .sl .no 1 (a2.map cI))]) H0 g
 have hS := St.start hf
 refine r_seq ?_
 refine r_region (n := 5) rfl ?_
 refine o_box (v := .agg [.i a0.Round, .sl .no 1 (a0.Notches.map cI), .sl .no 1 (a0.Coins.map cI)]) (cs := [.i a0.Round, .sl .no 1 (a0.Notches.map cI), .sl .no 1 (a0.Coins.map cI)]) hS (by decide) rfl rfl (by omega) fun H hS => ?_
 refine o_box (v := .i a1) (cs := [.i a1]) hS (by decide) rfl rfl (by omega) fun H hS => ?_
 refine o_box (v := .sl .no 1 (a2.map cI)) (cs := [.sl .no 1 (a2.map cI)]) hS (by decide) rfl rfl (by omega) fun H hS => ?_
 refine o_assign (v := .i 0) (by decide) rfl ?_
 refine o_assign (v := .i 0) (by decide) rfl ?_
 refine run_nil ?_
 refine w_iceE (L' := [(g + 2, .cells [.sl .no 1 (a2.map cI)]), (g + 1, .cells [.i a1])]) 2 3 hS rfl rfl rfl fun H hS => ?_
 refine w_iceE (L' := [(g + 2, .cells [.sl .no 1 (a2.map cI)])]) 1 4 hS rfl rfl rfl fun H hS => ?_
 refine w_iceE (L' := []) 0 5 hS rfl rfl rfl fun H hS => ?_
 refine w_next [(3, .ep [.i a0.Round, .sl .no 1 (a0.Notches.map cI), .sl .no 1 (a0.Coins.map cI)]), (4, .ep [.i a1]), (5, .ep [.sl .no 1 (a2.map cI)])] (.k (.k (.k .nil))) ?_
 refine r_seq ?_
 refine r_region (n := 9) rfl ?_
 refine o_loadE (v := .agg [.i a0.Round, .sl .no 1 (a0.Notches.map cI), .sl .no 1 (a0.Coins.map cI)]) (by decide) rfl (part_agg ty_agg24 (Nat.le_of_ble_eq_true rfl) rfl) ?_
 refine o_makeFunc (first := []) (cap := [.ep [.i a1], .ep [.sl .no 1 (a2.map cI)]]) (by decide) rfl rfl ?_
 obtain ⟨r1, hr1, hM⟩ := bindE hM
 refine o_call (bs := [.agg [.i a0.Round, .sl .no 1 (a0.Notches.map cI), .sl .no 1 (a0.Coins.map cI)], .fn (.func 80) [] [.ep [.i a1], .ep [.sl .no 1 (a2.map cI)]]]) (by decide) rfl rfl (pure_of_hsat ((W_coins_open (Lo := (fun (_ : Unit) => []))  (fun _ _ => kl_nil) (fun _ => List.nodup_nil) (fun _ => inb_nil) (aF := (fun (x0 : Wheel_) (_ : Unit) => (coins_Plays_c1 n x0 a1 a2).map fun y => (y, ()))) (fun _ H hH => (.fn _ _ _ ai_nil (ai_cons (.ep _ (ai_cons (show Go.AM.Pure _ from .v _).inH ai_nil)) (ai_cons (.ep _ (ai_cons (show Go.AM.Pure _ from .sl _ _ (pures_map (fun x => (pl_cons (.v _) pl_nil)))).inH ai_nil)) ai_nil)))) rfl (fun h => csat_val (W_coins_Plays_c1 (pure_some h))) hr1).le (.k (.k .nil)))) ?_
 refine o_move (v := .tup [.agg [.i r1.1.1.Wheel.Round, .sl .no 1 (r1.1.1.Wheel.Notches.map cI), .sl .no 1 (r1.1.1.Wheel.Coins.map cI)], .i r1.1.2]) (by decide) rfl ?_
 refine o_extract (v := .agg [.i r1.1.1.Wheel.Round, .sl .no 1 (r1.1.1.Wheel.Notches.map cI), .sl .no 1 (r1.1.1.Wheel.Coins.map cI)]) (by decide) rfl rfl ?_
 refine o_extract (v := .i r1.1.2) (by decide) rfl rfl ?_
 refine o_alloc hS (by decide) ty_zero71 (by omega) fun H hS => ?_
 refine o_store (v := .agg [.i r1.1.1.Wheel.Round, .sl .no 1 (r1.1.1.Wheel.Notches.map cI), .sl .no 1 (r1.1.1.Wheel.Coins.map cI)]) (ns := [.i r1.1.1.Wheel.Round, .sl .no 1 (r1.1.1.Wheel.Notches.map cI), .sl .no 1 (r1.1.1.Wheel.Coins.map cI)]) (L' := [(g + 5 + 6, .cells [.i r1.1.1.Wheel.Round, .sl .no 1 (r1.1.1.Wheel.Notches.map cI), .sl .no 1 (r1.1.1.Wheel.Coins.map cI)])]) 0 hS rfl rfl .no rfl rfl ty_var71 (Nat.le_of_ble_eq_true rfl) rfl fun H hS => ?_
 refine o_assign (v := .i r1.1.2) (by decide) rfl ?_
 refine run_nil ?_
 refine w_iceE (L' := []) 0 8 hS rfl rfl rfl fun H hS => ?_
 refine w_next [(3, .ep [.i a0.Round, .sl .no 1 (a0.Notches.map cI), .sl .no 1 (a0.Coins.map cI)]), (4, .ep [.i a1]), (5, .ep [.sl .no 1 (a2.map cI)]), (8, .ep [.i r1.1.1.Wheel.Round, .sl .no 1 (r1.1.1.Wheel.Notches.map cI), .sl .no 1 (r1.1.1.Wheel.Coins.map cI)]), (9, .i r1.1.2)] (.k (.k (.k (.k (.k .nil))))) ?_
 refine r_seq ?_
 refine r_seq ?_
 refine r_region (n := 2) rfl ?_
 refine o_move (v := .i r1.1.2) (by decide) rfl ?_
 refine o_int (v := .b (r1.1.2 != 0)) (by decide) rfl rfl rfl ?_
 refine run_nil ?_
 refine w_next [(3, .ep [.i a0.Round, .sl .no 1 (a0.Notches.map cI), .sl .no 1 (a0.Coins.map cI)]), (4, .ep [.i a1]), (5, .ep [.sl .no 1 (a2.map cI)]), (8, .ep [.i r1.1.1.Wheel.Round, .sl .no 1 (r1.1.1.Wheel.Notches.map cI), .sl .no 1 (r1.1.1.Wheel.Coins.map cI)]), (9, .i r1.1.2), (22, .b (r1.1.2 != 0))] (.k (.k (.k (.k (.k (.k .nil)))))) ?_
 rcases Bool.eq_false_or_eq_true (r1.1.2 != 0) with hb2 | hb2
 ·replace hM := ifT hM hb2
  refine w_condT (e := (r1.1.2 != 0)) rfl hb2 ?_
  refine r_seq ?_
  refine r_region (n := 3) rfl ?_
  refine o_move (v := .i r1.1.2) (by decide) rfl ?_
  refine o_assign (v := .i 0) (by decide) rfl ?_
  refine o_assign (v := .i r1.1.2) (by decide) rfl ?_
  refine run_nil ?_
  refine w_next [(6, .i 0), (7, .i r1.1.2)] (.k (.k .nil)) ?_
  refine r_ret ?_
  refine r_then_ret ?_
  refine w_end (x := .tup [.i 0, .i r1.1.2]) (f := fun r => .tup [.i r.1, .i r.2]) (.inr rfl) ?_ (.refl _) (Option.some.inj hM) hS
  exact (res_two (res_tmp (x := .i 0) rfl) (res_tmp (x := .i r1.1.2) rfl))
 ·replace hM := ifF hM hb2
  refine w_condF (e := (r1.1.2 != 0)) rfl hb2 ?_
  refine r_skip ?_
  refine w_next [(3, .ep [.i a0.Round, .sl .no 1 (a0.Notches.map cI), .sl .no 1 (a0.Coins.map cI)]), (4, .ep [.i a1]), (5, .ep [.sl .no 1 (a2.map cI)]), (8, .ep [.i r1.1.1.Wheel.Round, .sl .no 1 (r1.1.1.Wheel.Notches.map cI), .sl .no 1 (r1.1.1.Wheel.Coins.map cI)])] (.k (.k (.k (.k .nil)))) ?_
  refine r_seq ?_
  refine r_region (n := 1) rfl ?_
  refine o_assign (v := .i 0) (by decide) rfl ?_
  refine run_nil ?_
  refine w_next [(3, .ep [.i a0.Round, .sl .no 1 (a0.Notches.map cI), .sl .no 1 (a0.Coins.map cI)]), (4, .ep [.i a1]), (5, .ep [.sl .no 1 (a2.map cI)]), (8, .ep [.i r1.1.1.Wheel.Round, .sl .no 1 (r1.1.1.Wheel.Notches.map cI), .sl .no 1 (r1.1.1.Wheel.Coins.map cI)]), (10, .i 0)] (.k (.k (.k (.k (.k .nil))))) ?_
  refine w_join (J := Int) (fun j => [(4, .ep [.i a1]), (8, .ep [.i r1.1.1.Wheel.Round, .sl .no 1 (r1.1.1.Wheel.Notches.map cI), .sl .no 1 (r1.1.1.Wheel.Coins.map cI)]), (10, .i j)]) (fun j H' g' => St (· < g) H0 [] H' g' ∧ coins_Plays_j1 n a1 r1 j = some r) ?_ ?_
  ·rintro v3 H g1 ⟨hS, hM⟩
   change wpA _ _ _ _ (Fr.of [(4, .ep [.i a1]), (8, .ep [.i r1.1.1.Wheel.Round, .sl .no 1 (r1.1.1.Wheel.Notches.map cI), .sl .no 1 (r1.1.1.Wheel.Coins.map cI)]), (10, .i v3)]) _ _
   replace hS : St (· < g) H0 [] H g1 := hS
   replace hM : coins_Plays_j1 n a1 r1 v3 = some r := hM
   refine r_seq ?_
   refine r_region (n := 9) rfl ?_
   refine o_loadE (v := .agg [.i r1.1.1.Wheel.Round, .sl .no 1 (r1.1.1.Wheel.Notches.map cI), .sl .no 1 (r1.1.1.Wheel.Coins.map cI)]) (by decide) rfl (part_agg ty_agg71 (Nat.le_of_ble_eq_true rfl) rfl) ?_
   refine o_loadE (v := .i a1) (by decide) rfl (part_one ty_agg3 ty_sc3 rfl) ?_
   refine o_move (v := .i v3) (by decide) rfl ?_
   obtain ⟨r4, hr4, hM⟩ := bindE hM
   refine o_call (bs := [.agg [.i r1.1.1.Wheel.Round, .sl .no 1 (r1.1.1.Wheel.Notches.map cI), .sl .no 1 (r1.1.1.Wheel.Coins.map cI)], .i a1, .i v3]) (by decide) rfl rfl ((W_coins_wheel_turn hr4).le (.k (.k (.k .nil)))) ?_
   refine o_move (v := .tup [.i r4.1, .i r4.2]) (by decide) rfl ?_
   refine o_extract (v := .i r4.1) (by decide) rfl rfl ?_
   refine o_extract (v := .i r4.2) (by decide) rfl rfl ?_
   refine o_assign (v := .i r4.1) (by decide) rfl ?_
   refine o_assign (v := .i r4.2) (by decide) rfl ?_
   refine run_nil ?_
   refine w_next [(14, .i r4.2)] (.k .nil) ?_
   refine r_seq ?_
   refine r_region (n := 3) rfl ?_
   refine o_move (v := .i r4.2) (by decide) rfl ?_
   refine o_assign (v := .i r4.2) (by decide) rfl ?_
   refine o_assign (v := .i 0) (by decide) rfl ?_
   refine run_nil ?_
   refine w_next [(6, .i r4.2), (7, .i 0)] (.k (.k .nil)) ?_
   refine r_ret ?_
   refine w_end (x := .tup [.i r4.2, .i 0]) (f := fun r => .tup [.i r.1, .i r.2]) (.inr rfl) ?_ (.refl _) (Option.some.inj hM) hS
   exact (res_two (res_tmp (x := .i r4.2) rfl) (res_tmp (x := .i 0) rfl))
  ·refine r_seq ?_
   refine r_region (n := 3) rfl ?_
   refine o_loadE (v := .sl .no 1 (a2.map cI)) (by decide) rfl (part_one ty_agg22 ty_sc22 rfl) ?_
   refine o_len (n := a2.length) (by decide) rfl (List.length_map _) ty_isl22 ?_
   refine o_move (v := .i 0) (by decide) rfl ?_
   refine run_nil ?_
   refine w_next [(3, .ep [.i a0.Round, .sl .no 1 (a0.Notches.map cI), .sl .no 1 (a0.Coins.map cI)]), (4, .ep [.i a1]), (8, .ep [.i r1.1.1.Wheel.Round, .sl .no 1 (r1.1.1.Wheel.Notches.map cI), .sl .no 1 (r1.1.1.Wheel.Coins.map cI)]), (10, .i 0), (24, .sl .no 1 (a2.map cI)), (25, .i (a2.length : Int)), (26, .i 0)] (.k (.k (.k (.k (.k (.k (.k .nil))))))) ?_
   refine r_block ?_
   refine w_loop (V := Int × Int) (fun v => [(3, .ep [.i a0.Round, .sl .no 1 (a0.Notches.map cI), .sl .no 1 (a0.Coins.map cI)]), (4, .ep [.i a1]), (8, .ep [.i r1.1.1.Wheel.Round, .sl .no 1 (r1.1.1.Wheel.Notches.map cI), .sl .no 1 (r1.1.1.Wheel.Coins.map cI)]), (10, .i v.1), (24, .sl .no 1 (a2.map cI)), (25, .i (a2.length : Int)), (26, .i v.2)]) (fun v m2 H' g' => St (· < g) H0 [] H' g' ∧ coins_Plays_l1 n a0 a1 a2 r1 m2 v.1 v.2 = some r) (n := n) (0, 0) (.k (.k (.k (.k (.k (.k (.k .nil))))))) ⟨(hS.keep [] rfl).up (by omega), hM⟩ ?_
   rintro ⟨v5, v6⟩ m2 H g2 ⟨hS, hM⟩
   obtain _ | m2 := m2
   ·exact nomatch (show none = some _ from hM)
   change wpA _ _ _ _ (Fr.of [(3, .ep [.i a0.Round, .sl .no 1 (a0.Notches.map cI), .sl .no 1 (a0.Coins.map cI)]), (4, .ep [.i a1]), (8, .ep [.i r1.1.1.Wheel.Round, .sl .no 1 (r1.1.1.Wheel.Notches.map cI), .sl .no 1 (r1.1.1.Wheel.Coins.map cI)]), (10, .i v5), (24, .sl .no 1 (a2.map cI)), (25, .i (a2.length : Int)), (26, .i v6)]) _ _
   replace hS : St (· < g) H0 [] H g2 := hS
   replace hM : coins_Plays_l1_b n a0 a1 a2 r1 (coins_Plays_l1 n a0 a1 a2 r1 m2) v5 v6 = some r := hM
   refine r_seq ?_
   refine r_region (n := 1) rfl ?_
   refine o_int (v := .b (decide (v6 < (a2.length : Int)))) (by decide) rfl rfl rfl ?_
   refine run_nil ?_
   refine w_next [(3, .ep [.i a0.Round, .sl .no 1 (a0.Notches.map cI), .sl .no 1 (a0.Coins.map cI)]), (4, .ep [.i a1]), (8, .ep [.i r1.1.1.Wheel.Round, .sl .no 1 (r1.1.1.Wheel.Notches.map cI), .sl .no 1 (r1.1.1.Wheel.Coins.map cI)]), (10, .i v5), (24, .sl .no 1 (a2.map cI)), (25, .i (a2.length : Int)), (26, .i v6), (27, .b (decide (v6 < (a2.length : Int))))] (.k (.k (.k (.k (.k (.k (.k (.k .nil)))))))) ?_
   refine r_seq ?_
   rcases Bool.eq_false_or_eq_true (decide (v6 < (a2.length : Int))) with hb7 | hb7
   ·replace hM := ifT hM hb7
    refine w_condT (e := (decide (v6 < (a2.length : Int)))) rfl hb7 ?_
    refine r_skip ?_
    refine w_next [(3, .ep [.i a0.Round, .sl .no 1 (a0.Notches.map cI), .sl .no 1 (a0.Coins.map cI)]), (4, .ep [.i a1]), (8, .ep [.i r1.1.1.Wheel.Round, .sl .no 1 (r1.1.1.Wheel.Notches.map cI), .sl .no 1 (r1.1.1.Wheel.Coins.map cI)]), (10, .i v5), (24, .sl .no 1 (a2.map cI)), (25, .i (a2.length : Int)), (26, .i v6)] (.k (.k (.k (.k (.k (.k (.k .nil))))))) ?_
    refine r_seq ?_
    refine r_block ?_
    refine r_seq ?_
    refine r_region (n := 3) rfl ?_
    obtain ⟨x8, hx8, hM⟩ := bindE hM
    refine o_index (xs := a2) (f := cI) (z := v6) (u := x8) (by decide) rfl rfl ty_es22 hx8 ?_
    refine o_loadE (v := .i x8) (by decide) rfl (part_one ty_agg3 ty_sc3 rfl) ?_
    refine o_assign (v := .i x8) (by decide) rfl ?_
    refine run_nil ?_
    refine w_next [(3, .ep [.i a0.Round, .sl .no 1 (a0.Notches.map cI), .sl .no 1 (a0.Coins.map cI)]), (4, .ep [.i a1]), (8, .ep [.i r1.1.1.Wheel.Round, .sl .no 1 (r1.1.1.Wheel.Notches.map cI), .sl .no 1 (r1.1.1.Wheel.Coins.map cI)]), (10, .i v5), (12, .i x8), (24, .sl .no 1 (a2.map cI)), (25, .i (a2.length : Int)), (26, .i v6)] (.k (.k (.k (.k (.k (.k (.k (.k .nil)))))))) ?_
    refine r_region (n := 8) rfl ?_
    refine o_move (v := .i v5) (by decide) rfl ?_
    refine o_fieldE (cs := [.i a0.Round, .sl .no 1 (a0.Notches.map cI), .sl .no 1 (a0.Coins.map cI)]) (by decide) ty_fo24_2 rfl ?_
    refine o_loadE (v := .sl .no 1 (a0.Coins.map cI)) (by decide) rfl (part_one ty_agg22 ty_sc22 rfl) ?_
    refine o_move (v := .i x8) (by decide) rfl ?_
    obtain ⟨x9, hx9, hM⟩ := bindE hM
    refine o_index (xs := a0.Coins) (f := cI) (z := x8) (u := x9) (by decide) rfl rfl ty_es22 hx9 ?_
    refine o_loadE (v := .i x9) (by decide) rfl (part_one ty_agg3 ty_sc3 rfl) ?_
    refine o_int (v := .i (w64 (v5 + x9))) (by decide) rfl rfl rfl ?_
    refine o_assign (v := .i (w64 (v5 + x9))) (by decide) rfl ?_
    refine run_nil ?_
    refine r_blk_normal ?_
    refine w_next [(3, .ep [.i a0.Round, .sl .no 1 (a0.Notches.map cI), .sl .no 1 (a0.Coins.map cI)]), (4, .ep [.i a1]), (8, .ep [.i r1.1.1.Wheel.Round, .sl .no 1 (r1.1.1.Wheel.Notches.map cI), .sl .no 1 (r1.1.1.Wheel.Coins.map cI)]), (10, .i (w64 (v5 + x9))), (24, .sl .no 1 (a2.map cI)), (25, .i (a2.length : Int)), (26, .i v6)] (.k (.k (.k (.k (.k (.k (.k .nil))))))) ?_
    refine r_region (n := 2) rfl ?_
    refine o_int (v := .i (w64 (v6 + 1))) (by decide) rfl rfl rfl ?_
    refine o_move (v := .i (w64 (v6 + 1))) (by decide) rfl ?_
    refine run_nil ?_
    exact w_round (w64 (v5 + x9), w64 (v6 + 1)) (Nat.lt_succ_self _) (.k (.k (.k (.k (.k (.k (.k .nil))))))) ⟨(hS.keep [] rfl).up (by omega), hM⟩
   ·replace hM := ifF hM hb7
    refine w_condF (e := (decide (v6 < (a2.length : Int)))) rfl hb7 ?_
    refine r_exit ?_
    refine r_then_exit ?_
    refine w_round_exit ?_
    refine r_blk_exit ?_
    exact w_goto v5 (.k (.k (.k .nil))) ⟨(hS.keep [] rfl).up (by omega), hM⟩
theorem W_ref01_Worth {n : Nat} {a0 : Wheel} {a1 : List Int} {r : Int} (hM : ref01_Worth n a0 a1 = some r) : PureSat Try.prog 83 [.agg [.i a0.Round, .sl .no 1 (a0.Notches.map cI), .sl .no 1 (a0.Coins.map cI)], .sl .no 1 (a1.map cI)] (.i r) := by
 refine pure_of_wp mixed Try.func83 rfl (by decide) Try.ntmps83 (by simp) ?pure fun H0 g hf => ?_
 case pure => exact .v _
 rw [frame0_of]
 change wpA _ _ _ _ (Fr.of [(0, .agg [.i a0.Round, .sl .no 1 (a0.Notches.map cI), .sl .no 1 (a0.Coins.map cI)]), (1, .sl .no 1 (a1.map cI))]) H0 g
 have hS := St.start hf
 refine r_seq ?_
 refine r_region (n := 2) rfl ?_
 refine o_box (v := .agg [.i a0.Round, .sl .no 1 (a0.Notches.map cI), .sl .no 1 (a0.Coins.map cI)]) (cs := [.i a0.Round, .sl .no 1 (a0.Notches.map cI), .sl .no 1 (a0.Coins.map cI)]) hS (by decide) rfl rfl (by omega) fun H hS => ?_
 refine o_assign (v := .i 0) (by decide) rfl ?_
 refine run_nil ?_
 refine w_iceE (L' := []) 0 2 hS rfl rfl rfl fun H hS => ?_
 refine w_next [(1, .sl .no 1 (a1.map cI)), (2, .ep [.i a0.Round, .sl .no 1 (a0.Notches.map cI), .sl .no 1 (a0.Coins.map cI)])] (.k (.k .nil)) ?_
 refine r_seq ?_
 refine r_region (n := 1) rfl ?_
 refine o_assign (v := .i 0) (by decide) rfl ?_
 refine run_nil ?_
 refine w_next [(1, .sl .no 1 (a1.map cI)), (2, .ep [.i a0.Round, .sl .no 1 (a0.Notches.map cI), .sl .no 1 (a0.Coins.map cI)]), (5, .i 0)] (.k (.k (.k .nil))) ?_
 refine w_join (J := Int) (fun j => [(5, .i j)]) (fun j H' g' => St (· < g) H0 [] H' g' ∧ ref01_Worth_j1 j = some r) ?_ ?_
 ·rintro v1 H g1 ⟨hS, hM⟩
  change wpA _ _ _ _ (Fr.of [(5, .i v1)]) _ _
  replace hS : St (· < g) H0 [] H g1 := hS
  replace hM : ref01_Worth_j1 v1 = some r := hM
  refine r_seq ?_
  refine r_region (n := 2) rfl ?_
  refine o_move (v := .i v1) (by decide) rfl ?_
  refine o_assign (v := .i v1) (by decide) rfl ?_
  refine run_nil ?_
  refine w_next [(4, .i v1)] (.k .nil) ?_
  refine r_ret ?_
  refine w_end (x := .i v1) (f := fun r => .i r) (.inr rfl) ?_ (.refl _) (Option.some.inj hM) hS
  exact (res_one (res_tmp (x := .i v1) rfl))
 ·refine r_seq ?_
  refine r_region (n := 1) rfl ?_
  refine o_assign (v := .i 0) (by decide) rfl ?_
  refine run_nil ?_
  refine w_next [(1, .sl .no 1 (a1.map cI)), (2, .ep [.i a0.Round, .sl .no 1 (a0.Notches.map cI), .sl .no 1 (a0.Coins.map cI)]), (5, .i 0), (6, .i 0)] (.k (.k (.k (.k .nil)))) ?_
  refine r_block ?_
  refine w_loop (V := Int × Int) (fun v => [(1, .sl .no 1 (a1.map cI)), (2, .ep [.i a0.Round, .sl .no 1 (a0.Notches.map cI), .sl .no 1 (a0.Coins.map cI)]), (5, .i v.1), (6, .i v.2)]) (fun v m2 H' g' => St (· < g) H0 [] H' g' ∧ ref01_Worth_l1 a0 a1 m2 v.1 v.2 = some r) (n := n) (0, 0) (.k (.k (.k (.k .nil)))) ⟨(hS.keep [] rfl).up (by omega), hM⟩ ?_
  rintro ⟨v2, v3⟩ m2 H g2 ⟨hS, hM⟩
  obtain _ | m2 := m2
  ·exact nomatch (show none = some _ from hM)
  change wpA _ _ _ _ (Fr.of [(1, .sl .no 1 (a1.map cI)), (2, .ep [.i a0.Round, .sl .no 1 (a0.Notches.map cI), .sl .no 1 (a0.Coins.map cI)]), (5, .i v2), (6, .i v3)]) _ _
  replace hS : St (· < g) H0 [] H g2 := hS
  replace hM : ref01_Worth_l1_b a0 a1 (ref01_Worth_l1 a0 a1 m2) v2 v3 = some r := hM
  refine r_seq ?_
  refine r_seq ?_
  refine r_region (n := 4) rfl ?_
  refine o_move (v := .i v3) (by decide) rfl ?_
  refine o_move (v := .sl .no 1 (a1.map cI)) (by decide) rfl ?_
  refine o_len (n := a1.length) (by decide) rfl (List.length_map _) ty_isl22 ?_
  refine o_int (v := .b (decide (v3 < (a1.length : Int)))) (by decide) rfl rfl rfl ?_
  refine run_nil ?_
  refine w_next [(1, .sl .no 1 (a1.map cI)), (2, .ep [.i a0.Round, .sl .no 1 (a0.Notches.map cI), .sl .no 1 (a0.Coins.map cI)]), (5, .i v2), (6, .i v3), (10, .b (decide (v3 < (a1.length : Int))))] (.k (.k (.k (.k (.k .nil))))) ?_
  rcases Bool.eq_false_or_eq_true (decide (v3 < (a1.length : Int))) with hb4 | hb4
  ·replace hM := ifT hM hb4
   refine w_condT (e := (decide (v3 < (a1.length : Int)))) rfl hb4 ?_
   refine r_skip ?_
   refine w_next [(1, .sl .no 1 (a1.map cI)), (2, .ep [.i a0.Round, .sl .no 1 (a0.Notches.map cI), .sl .no 1 (a0.Coins.map cI)]), (5, .i v2), (6, .i v3)] (.k (.k (.k (.k .nil)))) ?_
   refine r_seq ?_
   refine r_block ?_
   have hS0 := hS
   refine r_draw (n := 11) rfl (by kernel_rfl) ?_
   refine o_move (v := .i v2) (by decide) rfl ?_
   refine o_fieldE (cs := [.i a0.Round, .sl .no 1 (a0.Notches.map cI), .sl .no 1 (a0.Coins.map cI)]) (by decide) ty_fo24_2 rfl ?_
   refine o_loadE (v := .sl .no 1 (a0.Coins.map cI)) (by decide) rfl (part_one ty_agg22 ty_sc22 rfl) ?_
   refine o_move (v := .sl .no 1 (a1.map cI)) (by decide) rfl ?_
   refine o_move (v := .i v3) (by decide) rfl ?_
   obtain ⟨x5, hx5, hM⟩ := bindE hM
   refine o_index (xs := a1) (f := cI) (z := v3) (u := x5) (by decide) rfl rfl ty_es22 hx5 ?_
   refine o_loadE (v := .i x5) (by decide) rfl (part_one ty_agg3 ty_sc3 rfl) ?_
   obtain ⟨x6, hx6, hM⟩ := bindE hM
   refine o_index (xs := a0.Coins) (f := cI) (z := x5) (u := x6) (by decide) rfl rfl ty_es22 hx6 ?_
   refine o_loadE (v := .i x6) (by decide) rfl (part_one ty_agg3 ty_sc3 rfl) ?_
   refine o_int (v := .i (w64 (v2 + x6))) (by decide) rfl rfl rfl ?_
   refine o_assign (v := .i (w64 (v2 + x6))) (by decide) rfl ?_
   refine run_nil ?_
   refine r_blk_normal ?_
   refine w_next [(1, .sl .no 1 (a1.map cI)), (2, .ep [.i a0.Round, .sl .no 1 (a0.Notches.map cI), .sl .no 1 (a0.Coins.map cI)]), (5, .i (w64 (v2 + x6))), (6, .i v3)] (.k (.k (.k (.k .nil)))) ?_
   refine r_region (n := 3) rfl ?_
   refine o_move (v := .i v3) (by decide) rfl ?_
   refine o_int (v := .i (w64 (v3 + 1))) (by decide) rfl rfl rfl ?_
   refine o_assign (v := .i (w64 (v3 + 1))) (by decide) rfl ?_
   refine run_nil ?_
   exact w_round (w64 (v2 + x6), w64 (v3 + 1)) (Nat.lt_succ_self _) (.k (.k (.k (.k .nil)))) ⟨(hS.keep [] rfl).up (by omega), hM⟩
  ·replace hM := ifF hM hb4
   refine w_condF (e := (decide (v3 < (a1.length : Int)))) rfl hb4 ?_
   refine r_exit ?_
   refine r_then_exit ?_
   refine w_round_exit ?_
   refine r_blk_exit ?_
   exact w_goto v2 (.k .nil) ⟨(hS.keep [] rfl).up (by omega), hM⟩
theorem W_ref01_Plays {n : Nat} {a0 : Wheel} {a1 : Int} {a2 : List Int} {r : Int × Int} (hM : ref01_Plays n a0 a1 a2 = some r) : PureSat Try.prog 43 [.agg [.i a0.Round, .sl .no 1 (a0.Notches.map cI), .sl .no 1 (a0.Coins.map cI)], .i a1, .sl .no 1 (a2.map cI)] (.tup [.i r.1, .i r.2]) := by
 refine pure_of_wp mixed Try.func43 rfl (by decide) Try.ntmps43 (by simp) ?pure fun H0 g hf => ?_
 case pure => exact .tup _ (pl_cons (.v _) (pl_cons (.v _) pl_nil))
 rw [frame0_of]
 change wpA _ _ _ _ (Fr.of [(0, .agg [.i a0.Round, .sl .no 1 (a0.Notches.map cI), .sl .no 1 (a0.Coins.map cI)]), (1, .i a1), (2, .sl .no 1 (a2.map cI))]) H0 g
 have hS := St.start hf
 refine r_seq ?_
 refine r_region (n := 3) rfl ?_
 refine o_box (v := .agg [.i a0.Round, .sl .no 1 (a0.Notches.map cI), .sl .no 1 (a0.Coins.map cI)]) (cs := [.i a0.Round, .sl .no 1 (a0.Notches.map cI), .sl .no 1 (a0.Coins.map cI)]) hS (by decide) rfl rfl (by omega) fun H hS => ?_
 refine o_assign (v := .i 0) (by decide) rfl ?_
 refine o_assign (v := .i 0) (by decide) rfl ?_
 refine run_nil ?_
 refine w_iceE (L' := []) 0 3 hS rfl rfl rfl fun H hS => ?_
 refine w_next [(1, .i a1), (2, .sl .no 1 (a2.map cI)), (3, .ep [.i a0.Round, .sl .no 1 (a0.Notches.map cI), .sl .no 1 (a0.Coins.map cI)])] (.k (.k (.k .nil))) ?_
 refine r_seq ?_
 refine r_seq ?_
 refine r_region (n := 3) rfl ?_
 refine o_loadE (v := .agg [.i a0.Round, .sl .no 1 (a0.Notches.map cI), .sl .no 1 (a0.Coins.map cI)]) (by decide) rfl (part_agg ty_agg24 (Nat.le_of_ble_eq_true rfl) rfl) ?_
 obtain ⟨r1, hr1, hM⟩ := bindE hM
 refine o_call (bs := [.agg [.i a0.Round, .sl .no 1 (a0.Notches.map cI), .sl .no 1 (a0.Coins.map cI)]]) (by decide) rfl rfl ((W_ref01_Check hr1).le (.k .nil)) ?_
 refine o_assign (v := .i r1) (by decide) rfl ?_
 refine run_nil ?_
 refine w_next [(1, .i a1), (2, .sl .no 1 (a2.map cI)), (3, .ep [.i a0.Round, .sl .no 1 (a0.Notches.map cI), .sl .no 1 (a0.Coins.map cI)]), (8, .i r1)] (.k (.k (.k (.k .nil)))) ?_
 refine r_seq ?_
 refine r_region (n := 2) rfl ?_
 refine o_move (v := .i r1) (by decide) rfl ?_
 refine o_int (v := .b (r1 != 0)) (by decide) rfl rfl rfl ?_
 refine run_nil ?_
 refine w_next [(1, .i a1), (2, .sl .no 1 (a2.map cI)), (3, .ep [.i a0.Round, .sl .no 1 (a0.Notches.map cI), .sl .no 1 (a0.Coins.map cI)]), (8, .i r1), (14, .b (r1 != 0))] (.k (.k (.k (.k (.k .nil))))) ?_
 rcases Bool.eq_false_or_eq_true (r1 != 0) with hb2 | hb2
 ·replace hM := ifT hM hb2
  refine w_condT (e := (r1 != 0)) rfl hb2 ?_
  refine r_seq ?_
  refine r_region (n := 3) rfl ?_
  refine o_move (v := .i r1) (by decide) rfl ?_
  refine o_assign (v := .i 0) (by decide) rfl ?_
  refine o_assign (v := .i r1) (by decide) rfl ?_
  refine run_nil ?_
  refine w_next [(6, .i 0), (7, .i r1)] (.k (.k .nil)) ?_
  refine r_ret ?_
  refine r_then_ret ?_
  refine w_end (x := .tup [.i 0, .i r1]) (f := fun r => .tup [.i r.1, .i r.2]) (.inr rfl) ?_ (.refl _) (Option.some.inj hM) hS
  exact (res_two (res_tmp (x := .i 0) rfl) (res_tmp (x := .i r1) rfl))
 ·replace hM := ifF hM hb2
  refine w_condF (e := (r1 != 0)) rfl hb2 ?_
  refine r_skip ?_
  refine w_next [(1, .i a1), (2, .sl .no 1 (a2.map cI)), (3, .ep [.i a0.Round, .sl .no 1 (a0.Notches.map cI), .sl .no 1 (a0.Coins.map cI)])] (.k (.k (.k .nil))) ?_
  refine r_seq ?_
  refine w_join (J := Bool) (fun j => [(1, .i a1), (2, .sl .no 1 (a2.map cI)), (3, .ep [.i a0.Round, .sl .no 1 (a0.Notches.map cI), .sl .no 1 (a0.Coins.map cI)]), (25, .b j)]) (fun j H' g' => St (· < g) H0 [] H' g' ∧ ref01_Plays_j1 n a0 a1 a2 j = some r) ?_ ?_
  ·rintro v3 H g1 ⟨hS, hM⟩
   change wpA _ _ _ _ (Fr.of [(1, .i a1), (2, .sl .no 1 (a2.map cI)), (3, .ep [.i a0.Round, .sl .no 1 (a0.Notches.map cI), .sl .no 1 (a0.Coins.map cI)]), (25, .b v3)]) _ _
   replace hS : St (· < g) H0 [] H g1 := hS
   replace hM : ref01_Plays_j1 n a0 a1 a2 v3 = some r := hM
   rcases Bool.eq_false_or_eq_true v3 with hb4 | hb4
   ·replace hM := ifT hM hb4
    refine w_condT (e := v3) rfl hb4 ?_
    refine r_seq ?_
    refine r_region (n := 2) rfl ?_
    refine o_assign (v := .i 0) (by decide) rfl ?_
    refine o_assign (v := .i 1) (by decide) rfl ?_
    refine run_nil ?_
    refine w_next [(6, .i 0), (7, .i 1)] (.k (.k .nil)) ?_
    refine r_ret ?_
    refine r_then_ret ?_
    refine w_end (x := .tup [.i 0, .i 1]) (f := fun r => .tup [.i r.1, .i r.2]) (.inr rfl) ?_ (.refl _) (Option.some.inj hM) hS
    exact (res_two (res_tmp (x := .i 0) rfl) (res_tmp (x := .i 1) rfl))
   ·replace hM := ifF hM hb4
    refine w_condF (e := v3) rfl hb4 ?_
    refine r_skip ?_
    refine w_next [(1, .i a1), (2, .sl .no 1 (a2.map cI)), (3, .ep [.i a0.Round, .sl .no 1 (a0.Notches.map cI), .sl .no 1 (a0.Coins.map cI)])] (.k (.k (.k .nil))) ?_
    refine r_seq ?_
    have hS0 := hS
    refine r_draw (n := 11) rfl (by kernel_rfl) ?_
    refine o_loadE (v := .agg [.i a0.Round, .sl .no 1 (a0.Notches.map cI), .sl .no 1 (a0.Coins.map cI)]) (by decide) rfl (part_agg ty_agg24 (Nat.le_of_ble_eq_true rfl) rfl) ?_
    refine o_move (v := .i a1) (by decide) rfl ?_
    refine o_loadE (v := .agg [.i a0.Round, .sl .no 1 (a0.Notches.map cI), .sl .no 1 (a0.Coins.map cI)]) (by decide) rfl (part_agg ty_agg24 (Nat.le_of_ble_eq_true rfl) rfl) ?_
    refine o_move (v := .sl .no 1 (a2.map cI)) (by decide) rfl ?_
    obtain ⟨r5, hr5, hM⟩ := bindE hM
    refine o_call (bs := [.agg [.i a0.Round, .sl .no 1 (a0.Notches.map cI), .sl .no 1 (a0.Coins.map cI)], .sl .no 1 (a2.map cI)]) (by decide) rfl rfl ((W_ref01_Worth hr5).le (.k (.k .nil))) ?_
    obtain ⟨r6, hr6, hM⟩ := bindE hM
    refine o_call (bs := [.agg [.i a0.Round, .sl .no 1 (a0.Notches.map cI), .sl .no 1 (a0.Coins.map cI)], .i a1, .i r5]) (by decide) rfl rfl ((W_ref01_Put hr6).le (.k (.k (.k .nil)))) ?_
    refine o_move (v := .tup [.i r6.1, .i r6.2]) (by decide) rfl ?_
    refine o_extract (v := .i r6.1) (by decide) rfl rfl ?_
    refine o_extract (v := .i r6.2) (by decide) rfl rfl ?_
    refine o_assign (v := .i r6.1) (by decide) rfl ?_
    refine o_assign (v := .i r6.2) (by decide) rfl ?_
    refine run_nil ?_
    refine w_next [(10, .i r6.2)] (.k .nil) ?_
    refine r_seq ?_
    refine r_region (n := 3) rfl ?_
    refine o_move (v := .i r6.2) (by decide) rfl ?_
    refine o_assign (v := .i r6.2) (by decide) rfl ?_
    refine o_assign (v := .i 0) (by decide) rfl ?_
    refine run_nil ?_
    refine w_next [(6, .i r6.2), (7, .i 0)] (.k (.k .nil)) ?_
    refine r_ret ?_
    refine w_end (x := .tup [.i r6.2, .i 0]) (f := fun r => .tup [.i r.1, .i r.2]) (.inr rfl) ?_ (.refl _) (Option.some.inj hM) hS
    exact (res_two (res_tmp (x := .i r6.2) rfl) (res_tmp (x := .i 0) rfl))
  ·refine r_region (n := 10) rfl ?_
   refine o_loadE (v := .agg [.i a0.Round, .sl .no 1 (a0.Notches.map cI), .sl .no 1 (a0.Coins.map cI)]) (by decide) rfl (part_agg ty_agg24 (Nat.le_of_ble_eq_true rfl) rfl) ?_
   refine o_move (v := .i a1) (by decide) rfl ?_
   obtain ⟨r7, hr7, hM⟩ := bindE hM
   refine o_call (bs := [.agg [.i a0.Round, .sl .no 1 (a0.Notches.map cI), .sl .no 1 (a0.Coins.map cI)], .i a1]) (by decide) rfl rfl ((W_ref01_IsPlace hr7).le (.k (.k .nil))) ?_
   refine o_not (e := r7) (by decide) rfl ?_
   refine o_move (v := .b (!r7)) (by decide) rfl ?_
   rcases Bool.eq_false_or_eq_true (!r7) with hb8 | hb8
   ·replace hM := ifT hM hb8
    refine o_guardN (j := 4) (e := (!r7)) (want := false) (by decide) rfl hb8 ?_
    refine o_guardN (j := 4) (e := (!r7)) (want := false) (by decide) rfl hb8 ?_
    refine o_guardN (j := 4) (e := (!r7)) (want := false) (by decide) rfl hb8 ?_
    refine o_guardN (j := 4) (e := (!r7)) (want := false) (by decide) rfl hb8 ?_
    refine o_pickT (v := .b true) (e := (!r7)) (by decide) rfl hb8 rfl ?_
    refine run_nil ?_
    exact w_goto true (.k (.k (.k (.k .nil)))) ⟨(hS.keep [] rfl).up (by omega), hM⟩
   ·replace hM := ifF hM hb8
    refine o_guardY (j := 4) (e := (!r7)) (want := false) rfl hb8 ?_
    refine o_loadE (v := .agg [.i a0.Round, .sl .no 1 (a0.Notches.map cI), .sl .no 1 (a0.Coins.map cI)]) (by decide) rfl (part_agg ty_agg24 (Nat.le_of_ble_eq_true rfl) rfl) ?_
    refine o_guardY (j := 4) (e := (!r7)) (want := false) rfl hb8 ?_
    refine o_move (v := .sl .no 1 (a2.map cI)) (by decide) rfl ?_
    refine o_guardY (j := 4) (e := (!r7)) (want := false) rfl hb8 ?_
    obtain ⟨r9, hr9, hM⟩ := bindE hM
    refine o_call (bs := [.agg [.i a0.Round, .sl .no 1 (a0.Notches.map cI), .sl .no 1 (a0.Coins.map cI)], .sl .no 1 (a2.map cI), .i 0]) (by decide) rfl rfl ((W_ref01_AreKinds hr9).le (.k (.k (.k .nil)))) ?_
    refine o_guardY (j := 4) (e := (!r7)) (want := false) rfl hb8 ?_
    refine o_not (e := r9) (by decide) rfl ?_
    refine o_pickF (v := .b (!r9)) (e := (!r7)) (by decide) rfl hb8 rfl ?_
    refine run_nil ?_
    exact w_goto (!r9) (.k (.k (.k (.k .nil)))) ⟨(hS.keep [] rfl).up (by omega), hM⟩
theorem W_law01_CoinsRun {n : Nat} {a0 : Wheel} {a1 : Stand} {a2 : List Int} {r : Bool} (hM : law01_CoinsRun n a0 a1 a2 = some r) : PureSat Try.prog 8 [.agg [.i a0.Round, .sl .no 1 (a0.Notches.map cI), .sl .no 1 (a0.Coins.map cI)], .agg [.i a1.Place, .i a1.Credit], .sl .no 1 (a2.map cI)] (.b r) := by
 refine pure_of_wp mixed Try.func8 rfl (by decide) Try.ntmps8 (by simp) ?pure fun H0 g hf => ?_
 case pure => exact .v _
 rw [frame0_of]
 change wpA _ _ _ _ (Fr.of [(0, .agg [.i a0.Round, .sl .no 1 (a0.Notches.map cI), .sl .no 1 (a0.Coins.map cI)]), (1, .agg [.i a1.Place, .i a1.Credit]), (2, .sl .no 1 (a2.map cI))]) H0 g
 have hS := St.start hf
 refine r_seq ?_
 refine r_region (n := 3) rfl ?_
 refine o_box (v := .agg [.i a0.Round, .sl .no 1 (a0.Notches.map cI), .sl .no 1 (a0.Coins.map cI)]) (cs := [.i a0.Round, .sl .no 1 (a0.Notches.map cI), .sl .no 1 (a0.Coins.map cI)]) hS (by decide) rfl rfl (by omega) fun H hS => ?_
 refine o_box (v := .agg [.i a1.Place, .i a1.Credit]) (cs := [.i a1.Place, .i a1.Credit]) hS (by decide) rfl rfl (by omega) fun H hS => ?_
 refine o_assign (v := .b false) (by decide) rfl ?_
 refine run_nil ?_
 refine w_iceE (L' := [(g + 1, .cells [.i a1.Place, .i a1.Credit])]) 1 3 hS rfl rfl rfl fun H hS => ?_
 refine w_iceE (L' := []) 0 4 hS rfl rfl rfl fun H hS => ?_
 refine w_next [(2, .sl .no 1 (a2.map cI)), (3, .ep [.i a0.Round, .sl .no 1 (a0.Notches.map cI), .sl .no 1 (a0.Coins.map cI)]), (4, .ep [.i a1.Place, .i a1.Credit])] (.k (.k (.k .nil))) ?_
 refine r_seq ?_
 refine w_join (J := Bool) (fun j => [(2, .sl .no 1 (a2.map cI)), (3, .ep [.i a0.Round, .sl .no 1 (a0.Notches.map cI), .sl .no 1 (a0.Coins.map cI)]), (4, .ep [.i a1.Place, .i a1.Credit]), (25, .b j)]) (fun j H' g' => St (· < g) H0 [] H' g' ∧ law01_CoinsRun_j1 n a0 a1 a2 j = some r) ?_ ?_
 ·rintro v1 H g1 ⟨hS, hM⟩
  change wpA _ _ _ _ (Fr.of [(2, .sl .no 1 (a2.map cI)), (3, .ep [.i a0.Round, .sl .no 1 (a0.Notches.map cI), .sl .no 1 (a0.Coins.map cI)]), (4, .ep [.i a1.Place, .i a1.Credit]), (25, .b v1)]) _ _
  replace hS : St (· < g) H0 [] H g1 := hS
  replace hM : law01_CoinsRun_j1 n a0 a1 a2 v1 = some r := hM
  rcases Bool.eq_false_or_eq_true v1 with hb2 | hb2
  ·replace hM := ifT hM hb2
   refine w_condT (e := v1) rfl hb2 ?_
   refine r_seq ?_
   refine r_region (n := 2) rfl ?_
   obtain ⟨r3, hr3, hM⟩ := bindE hM
   refine o_call (bs := []) (by decide) rfl rfl ((W_law01_works hr3).le .nil) ?_
   refine o_assign (v := .b r3) (by decide) rfl ?_
   refine run_nil ?_
   refine w_next [(6, .b r3)] (.k .nil) ?_
   refine r_ret ?_
   refine r_then_ret ?_
   refine w_end (x := .b r3) (f := fun r => .b r) (.inr rfl) ?_ (.refl _) (Option.some.inj hM) hS
   exact (res_one (res_tmp (x := .b r3) rfl))
  ·replace hM := ifF hM hb2
   refine w_condF (e := v1) rfl hb2 ?_
   refine r_skip ?_
   refine w_next [(2, .sl .no 1 (a2.map cI)), (3, .ep [.i a0.Round, .sl .no 1 (a0.Notches.map cI), .sl .no 1 (a0.Coins.map cI)]), (4, .ep [.i a1.Place, .i a1.Credit])] (.k (.k (.k .nil))) ?_
   refine r_seq ?_
   refine r_region (n := 8) rfl ?_
   refine o_loadE (v := .agg [.i a0.Round, .sl .no 1 (a0.Notches.map cI), .sl .no 1 (a0.Coins.map cI)]) (by decide) rfl (part_agg ty_agg24 (Nat.le_of_ble_eq_true rfl) rfl) ?_
   obtain ⟨r4, hr4, hM⟩ := bindE hM
   refine o_call (bs := [.agg [.i a0.Round, .sl .no 1 (a0.Notches.map cI), .sl .no 1 (a0.Coins.map cI)]]) (by decide) rfl rfl ((W_ref01_Copy hr4).le (.k .nil)) ?_
   refine o_buildSlice (es := []) hS (by decide) ty_es22 ty_el22 rfl ty_ef22 rfl (by decide) (by omega) fun H hS => ?_
   refine o_move (v := .sl .no 1 (a2.map cI)) (by decide) rfl ?_
   obtain ⟨l5, hl5, hM⟩ := bindE hM
   refine o_append (xs := ([] : List Int)) (ys := a2) (zs := l5) (f := cI) (L' := [(g1 + 2, .row 3 l5.length)]) 0 hS (by decide) rfl rfl rfl rfl .no ty_es22 ty_el22 ty_ef22 hl5 rfl fun H hS => ?_
   refine o_alloc hS (by decide) ty_zero24 (by omega) fun H hS => ?_
   refine o_store (v := .agg [.i r4.Round, .sl .no 1 (r4.Notches.map cI), .sl .no 1 (r4.Coins.map cI)]) (ns := [.i r4.Round, .sl .no 1 (r4.Notches.map cI), .sl .no 1 (r4.Coins.map cI)]) (L' := [(g1 + 5, .cells [.i r4.Round, .sl .no 1 (r4.Notches.map cI), .sl .no 1 (r4.Coins.map cI)]), (g1 + 2, .row 3 l5.length)]) 0 hS rfl rfl .no rfl rfl ty_var24 (Nat.le_of_ble_eq_true rfl) rfl fun H hS => ?_
   refine o_assign (v := .sl (.id (g1 + 2)) 1 (l5.map cI)) (by decide) rfl ?_
   refine run_nil ?_
   refine w_iceE (L' := [(g1 + 2, .row 3 l5.length)]) 0 7 hS rfl rfl rfl fun H hS => ?_
   refine w_next [(2, .sl .no 1 (a2.map cI)), (3, .ep [.i a0.Round, .sl .no 1 (a0.Notches.map cI), .sl .no 1 (a0.Coins.map cI)]), (4, .ep [.i a1.Place, .i a1.Credit]), (7, .ep [.i r4.Round, .sl .no 1 (r4.Notches.map cI), .sl .no 1 (r4.Coins.map cI)]), (8, .sl (.id (g1 + 2)) 1 (l5.map cI))] (.k (.k (.k (.k (.k .nil))))) ?_
   refine r_seq ?_
   refine r_seq ?_
   have hS0 := hS
   refine r_draw (n := 5) rfl (by kernel_rfl) ?_
   refine o_loadE (v := .agg [.i r4.Round, .sl .no 1 (r4.Notches.map cI), .sl .no 1 (r4.Coins.map cI)]) (by decide) rfl (part_agg ty_agg24 (Nat.le_of_ble_eq_true rfl) rfl) ?_
   obtain ⟨r6, hr6, hM⟩ := bindE hM
   refine o_call (bs := [.agg [.i r4.Round, .sl .no 1 (r4.Notches.map cI), .sl .no 1 (r4.Coins.map cI)]]) (by decide) rfl rfl ((W_coins_Check hr6).le (.k .nil)) ?_
   refine o_loadE (v := .agg [.i a0.Round, .sl .no 1 (a0.Notches.map cI), .sl .no 1 (a0.Coins.map cI)]) (by decide) rfl (part_agg ty_agg24 (Nat.le_of_ble_eq_true rfl) rfl) ?_
   obtain ⟨r7, hr7, hM⟩ := bindE hM
   refine o_call (bs := [.agg [.i a0.Round, .sl .no 1 (a0.Notches.map cI), .sl .no 1 (a0.Coins.map cI)]]) (by decide) rfl rfl ((W_ref01_Check hr7).le (.k .nil)) ?_
   refine o_int (v := .b (r6 != r7)) (by decide) rfl rfl rfl ?_
   refine run_nil ?_
   refine w_next [(2, .sl .no 1 (a2.map cI)), (3, .ep [.i a0.Round, .sl .no 1 (a0.Notches.map cI), .sl .no 1 (a0.Coins.map cI)]), (4, .ep [.i a1.Place, .i a1.Credit]), (7, .ep [.i r4.Round, .sl .no 1 (r4.Notches.map cI), .sl .no 1 (r4.Coins.map cI)]), (8, .sl (.id (g1 + 2)) 1 (l5.map cI)), (36, .b (r6 != r7))] (.k (.k (.k (.k (.k (.k .nil)))))) ?_
   rcases Bool.eq_false_or_eq_true (r6 != r7) with hb8 | hb8
   ·replace hM := ifT hM hb8
    refine w_condT (e := (r6 != r7)) rfl hb8 ?_
    refine r_seq ?_
    refine r_region (n := 1) rfl ?_
    refine o_assign (v := .b false) (by decide) rfl ?_
    refine run_nil ?_
    replace hS := hS.keep (L' := []) [false] rfl
    refine w_next [(6, .b false)] (.k .nil) ?_
    refine r_ret ?_
    refine r_then_ret ?_
    refine w_end (x := .b false) (f := fun r => .b r) (.inr rfl) ?_ (.refl _) (Option.some.inj hM) hS
    exact (res_one (res_tmp (x := .b false) rfl))
   ·replace hM := ifF hM hb8
    refine w_condF (e := (r6 != r7)) rfl hb8 ?_
    refine r_skip ?_
    refine w_next [(2, .sl .no 1 (a2.map cI)), (3, .ep [.i a0.Round, .sl .no 1 (a0.Notches.map cI), .sl .no 1 (a0.Coins.map cI)]), (4, .ep [.i a1.Place, .i a1.Credit]), (7, .ep [.i r4.Round, .sl .no 1 (r4.Notches.map cI), .sl .no 1 (r4.Coins.map cI)]), (8, .sl (.id (g1 + 2)) 1 (l5.map cI))] (.k (.k (.k (.k (.k .nil))))) ?_
    refine r_seq ?_
    refine r_region (n := 12) rfl ?_
    refine o_loadE (v := .agg [.i r4.Round, .sl .no 1 (r4.Notches.map cI), .sl .no 1 (r4.Coins.map cI)]) (by decide) rfl (part_agg ty_agg24 (Nat.le_of_ble_eq_true rfl) rfl) ?_
    refine o_loadE (v := .agg [.i a1.Place, .i a1.Credit]) (by decide) rfl (part_agg ty_agg57 (Nat.le_of_ble_eq_true rfl) rfl) ?_
    refine o_move (v := .sl (.id (g1 + 2)) 1 (l5.map cI)) (by decide) rfl ?_
    obtain ⟨r9, hr9, hM⟩ := bindE hM
    refine o_call (bs := [.agg [.i r4.Round, .sl .no 1 (r4.Notches.map cI), .sl .no 1 (r4.Coins.map cI)], .agg [.i a1.Place, .i a1.Credit], .sl (.id (g1 + 2)) 1 (l5.map cI)]) (by decide) rfl rfl ((W_coins_Run hr9).le (.k (.k (.cons (.sl _ _ _) .nil)))) ?_
    refine o_move (v := .tup [.agg [.i r9.1.Place, .i r9.1.Credit], .i r9.2.1, .i r9.2.2]) (by decide) rfl ?_
    refine o_extract (v := .agg [.i r9.1.Place, .i r9.1.Credit]) (by decide) rfl rfl ?_
    refine o_extract (v := .i r9.2.1) (by decide) rfl rfl ?_
    refine o_extract (v := .i r9.2.2) (by decide) rfl rfl ?_
    refine o_alloc hS (by decide) ty_zero57 (by omega) fun H hS => ?_
    refine o_store (v := .agg [.i r9.1.Place, .i r9.1.Credit]) (ns := [.i r9.1.Place, .i r9.1.Credit]) (L' := [(g1 + 8 + 5 + 8, .cells [.i r9.1.Place, .i r9.1.Credit]), (g1 + 2, .row 3 l5.length)]) 0 hS rfl rfl .no rfl rfl ty_var57 (Nat.le_of_ble_eq_true rfl) rfl fun H hS => ?_
    refine o_assign (v := .i r9.2.1) (by decide) rfl ?_
    refine o_assign (v := .i r9.2.2) (by decide) rfl ?_
    refine run_nil ?_
    refine w_iceE (L' := [(g1 + 2, .row 3 l5.length)]) 0 9 hS rfl rfl rfl fun H hS => ?_
    refine w_next [(2, .sl .no 1 (a2.map cI)), (3, .ep [.i a0.Round, .sl .no 1 (a0.Notches.map cI), .sl .no 1 (a0.Coins.map cI)]), (4, .ep [.i a1.Place, .i a1.Credit]), (7, .ep [.i r4.Round, .sl .no 1 (r4.Notches.map cI), .sl .no 1 (r4.Coins.map cI)]), (8, .sl (.id (g1 + 2)) 1 (l5.map cI)), (9, .ep [.i r9.1.Place, .i r9.1.Credit]), (10, .i r9.2.1), (11, .i r9.2.2)] (.k (.k (.k (.k (.k (.k (.k (.k .nil)))))))) ?_
    refine r_seq ?_
    refine r_region (n := 12) rfl ?_
    refine o_loadE (v := .agg [.i a0.Round, .sl .no 1 (a0.Notches.map cI), .sl .no 1 (a0.Coins.map cI)]) (by decide) rfl (part_agg ty_agg24 (Nat.le_of_ble_eq_true rfl) rfl) ?_
    refine o_loadE (v := .agg [.i a1.Place, .i a1.Credit]) (by decide) rfl (part_agg ty_agg57 (Nat.le_of_ble_eq_true rfl) rfl) ?_
    refine o_move (v := .sl .no 1 (a2.map cI)) (by decide) rfl ?_
    obtain ⟨r10, hr10, hM⟩ := bindE hM
    refine o_call (bs := [.agg [.i a0.Round, .sl .no 1 (a0.Notches.map cI), .sl .no 1 (a0.Coins.map cI)], .agg [.i a1.Place, .i a1.Credit], .sl .no 1 (a2.map cI)]) (by decide) rfl rfl ((W_ref01_Run hr10).le (.k (.k (.k .nil)))) ?_
    refine o_move (v := .tup [.agg [.i r10.1.Place, .i r10.1.Credit], .i r10.2.1, .i r10.2.2]) (by decide) rfl ?_
    refine o_extract (v := .agg [.i r10.1.Place, .i r10.1.Credit]) (by decide) rfl rfl ?_
    refine o_extract (v := .i r10.2.1) (by decide) rfl rfl ?_
    refine o_extract (v := .i r10.2.2) (by decide) rfl rfl ?_
    refine o_alloc hS (by decide) ty_zero57 (by omega) fun H hS => ?_
    refine o_store (v := .agg [.i r10.1.Place, .i r10.1.Credit]) (ns := [.i r10.1.Place, .i r10.1.Credit]) (L' := [(g1 + 8 + 5 + 12 + 8, .cells [.i r10.1.Place, .i r10.1.Credit]), (g1 + 2, .row 3 l5.length)]) 0 hS rfl rfl .no rfl rfl ty_var57 (Nat.le_of_ble_eq_true rfl) rfl fun H hS => ?_
    refine o_assign (v := .i r10.2.1) (by decide) rfl ?_
    refine o_assign (v := .i r10.2.2) (by decide) rfl ?_
    refine run_nil ?_
    refine w_iceE (L' := [(g1 + 2, .row 3 l5.length)]) 0 12 hS rfl rfl rfl fun H hS => ?_
    refine w_next [(2, .sl .no 1 (a2.map cI)), (3, .ep [.i a0.Round, .sl .no 1 (a0.Notches.map cI), .sl .no 1 (a0.Coins.map cI)]), (4, .ep [.i a1.Place, .i a1.Credit]), (7, .ep [.i r4.Round, .sl .no 1 (r4.Notches.map cI), .sl .no 1 (r4.Coins.map cI)]), (8, .sl (.id (g1 + 2)) 1 (l5.map cI)), (9, .ep [.i r9.1.Place, .i r9.1.Credit]), (10, .i r9.2.1), (11, .i r9.2.2), (12, .ep [.i r10.1.Place, .i r10.1.Credit]), (13, .i r10.2.1), (14, .i r10.2.2)] (.k (.k (.k (.k (.k (.k (.k (.k (.k (.k (.k .nil))))))))))) ?_
    refine r_seq ?_
    refine r_region (n := 10) rfl ?_
    refine o_loadE (v := .agg [.i r4.Round, .sl .no 1 (r4.Notches.map cI), .sl .no 1 (r4.Coins.map cI)]) (by decide) rfl (part_agg ty_agg24 (Nat.le_of_ble_eq_true rfl) rfl) ?_
    refine o_fieldE (cs := [.i a1.Place, .i a1.Credit]) (by decide) ty_fo57_0 rfl ?_
    refine o_loadE (v := .i a1.Place) (by decide) rfl (part_one ty_agg3 ty_sc3 rfl) ?_
    refine o_move (v := .sl (.id (g1 + 2)) 1 (l5.map cI)) (by decide) rfl ?_
    obtain ⟨r11, hr11, hM⟩ := bindE hM
    refine o_call (bs := [.agg [.i r4.Round, .sl .no 1 (r4.Notches.map cI), .sl .no 1 (r4.Coins.map cI)], .i a1.Place, .sl (.id (g1 + 2)) 1 (l5.map cI)]) (by decide) rfl rfl ((W_coins_Plays hr11).le (.k (.k (.cons (.sl _ _ _) .nil)))) ?_
    refine o_move (v := .tup [.i r11.1, .i r11.2]) (by decide) rfl ?_
    refine o_extract (v := .i r11.1) (by decide) rfl rfl ?_
    refine o_extract (v := .i r11.2) (by decide) rfl rfl ?_
    refine o_assign (v := .i r11.1) (by decide) rfl ?_
    refine o_assign (v := .i r11.2) (by decide) rfl ?_
    refine run_nil ?_
    refine w_next [(2, .sl .no 1 (a2.map cI)), (3, .ep [.i a0.Round, .sl .no 1 (a0.Notches.map cI), .sl .no 1 (a0.Coins.map cI)]), (4, .ep [.i a1.Place, .i a1.Credit]), (7, .ep [.i r4.Round, .sl .no 1 (r4.Notches.map cI), .sl .no 1 (r4.Coins.map cI)]), (8, .sl (.id (g1 + 2)) 1 (l5.map cI)), (9, .ep [.i r9.1.Place, .i r9.1.Credit]), (10, .i r9.2.1), (11, .i r9.2.2), (12, .ep [.i r10.1.Place, .i r10.1.Credit]), (13, .i r10.2.1), (14, .i r10.2.2), (15, .i r11.1), (16, .i r11.2)] (.k (.k (.k (.k (.k (.k (.k (.k (.k (.k (.k (.k (.k .nil))))))))))))) ?_
    refine r_seq ?_
    refine r_region (n := 10) rfl ?_
    refine o_loadE (v := .agg [.i a0.Round, .sl .no 1 (a0.Notches.map cI), .sl .no 1 (a0.Coins.map cI)]) (by decide) rfl (part_agg ty_agg24 (Nat.le_of_ble_eq_true rfl) rfl) ?_
    refine o_fieldE (cs := [.i a1.Place, .i a1.Credit]) (by decide) ty_fo57_0 rfl ?_
    refine o_loadE (v := .i a1.Place) (by decide) rfl (part_one ty_agg3 ty_sc3 rfl) ?_
    refine o_move (v := .sl .no 1 (a2.map cI)) (by decide) rfl ?_
    obtain ⟨r12, hr12, hM⟩ := bindE hM
    refine o_call (bs := [.agg [.i a0.Round, .sl .no 1 (a0.Notches.map cI), .sl .no 1 (a0.Coins.map cI)], .i a1.Place, .sl .no 1 (a2.map cI)]) (by decide) rfl rfl ((W_ref01_Plays hr12).le (.k (.k (.k .nil)))) ?_
    refine o_move (v := .tup [.i r12.1, .i r12.2]) (by decide) rfl ?_
    refine o_extract (v := .i r12.1) (by decide) rfl rfl ?_
    refine o_extract (v := .i r12.2) (by decide) rfl rfl ?_
    refine o_assign (v := .i r12.1) (by decide) rfl ?_
    refine o_assign (v := .i r12.2) (by decide) rfl ?_
    refine run_nil ?_
    refine w_next [(2, .sl .no 1 (a2.map cI)), (3, .ep [.i a0.Round, .sl .no 1 (a0.Notches.map cI), .sl .no 1 (a0.Coins.map cI)]), (7, .ep [.i r4.Round, .sl .no 1 (r4.Notches.map cI), .sl .no 1 (r4.Coins.map cI)]), (8, .sl (.id (g1 + 2)) 1 (l5.map cI)), (9, .ep [.i r9.1.Place, .i r9.1.Credit]), (10, .i r9.2.1), (11, .i r9.2.2), (12, .ep [.i r10.1.Place, .i r10.1.Credit]), (13, .i r10.2.1), (14, .i r10.2.2), (15, .i r11.1), (16, .i r11.2), (17, .i r12.1), (18, .i r12.2)] (.k (.k (.k (.k (.k (.k (.k (.k (.k (.k (.k (.k (.k (.k .nil)))))))))))))) ?_
    refine w_join (J := Bool) (fun j => [(6, .b j)]) (fun j H' g' => St (· < g) H0 [] H' g' ∧ law01_CoinsRun_j2 j = some r) ?_ ?_
    ·rintro v13 H g2 ⟨hS, hM⟩
     change wpA _ _ _ _ (Fr.of [(6, .b v13)]) _ _
     replace hS : St (· < g) H0 [] H g2 := hS
     replace hM : law01_CoinsRun_j2 v13 = some r := hM
     refine r_ret ?_
     refine w_end (x := .b v13) (f := fun r => .b r) (.inr rfl) ?_ (.refl _) (Option.some.inj hM) hS
     exact (res_one (res_tmp (x := .b v13) rfl))
    ·refine r_region (n := 37) rfl ?_
     refine o_loadE (v := .agg [.i r9.1.Place, .i r9.1.Credit]) (by decide) rfl (part_agg ty_agg57 (Nat.le_of_ble_eq_true rfl) rfl) ?_
     refine o_loadE (v := .agg [.i r10.1.Place, .i r10.1.Credit]) (by decide) rfl (part_agg ty_agg57 (Nat.le_of_ble_eq_true rfl) rfl) ?_
     refine o_eqS (cs := [.i r9.1.Place, .i r9.1.Credit]) (ds := [.i r10.1.Place, .i r10.1.Credit]) (e := ((r9.1.Place == r10.1.Place) && ((r9.1.Credit == r10.1.Credit) && true))) (by decide) rfl rfl ty_flat57 rfl ?_
     refine o_move (v := .b ((r9.1.Place == r10.1.Place) && ((r9.1.Credit == r10.1.Credit) && true))) (by decide) rfl ?_
     rcases Bool.eq_false_or_eq_true ((r9.1.Place == r10.1.Place) && ((r9.1.Credit == r10.1.Credit) && true)) with hb14 | hb14
     ·replace hM := ifT hM hb14
      refine o_guardY (j := 3) (e := ((r9.1.Place == r10.1.Place) && ((r9.1.Credit == r10.1.Credit) && true))) (want := true) rfl hb14 ?_
      refine o_move (v := .i r9.2.1) (by decide) rfl ?_
      refine o_guardY (j := 3) (e := ((r9.1.Place == r10.1.Place) && ((r9.1.Credit == r10.1.Credit) && true))) (want := true) rfl hb14 ?_
      refine o_move (v := .i r10.2.1) (by decide) rfl ?_
      refine o_guardY (j := 3) (e := ((r9.1.Place == r10.1.Place) && ((r9.1.Credit == r10.1.Credit) && true))) (want := true) rfl hb14 ?_
      refine o_int (v := .b (r9.2.1 == r10.2.1)) (by decide) rfl rfl rfl ?_
      refine o_pickT (v := .b (r9.2.1 == r10.2.1)) (e := ((r9.1.Place == r10.1.Place) && ((r9.1.Credit == r10.1.Credit) && true))) (by decide) rfl hb14 rfl ?_
      refine o_move (v := .b (r9.2.1 == r10.2.1)) (by decide) rfl ?_
      rcases Bool.eq_false_or_eq_true (r9.2.1 == r10.2.1) with hb15 | hb15
      ·replace hM := ifT hM hb15
       refine o_guardY (j := 8) (e := (r9.2.1 == r10.2.1)) (want := true) rfl hb15 ?_
       refine o_move (v := .i r9.2.2) (by decide) rfl ?_
       refine o_guardY (j := 8) (e := (r9.2.1 == r10.2.1)) (want := true) rfl hb15 ?_
       refine o_move (v := .i r10.2.2) (by decide) rfl ?_
       refine o_guardY (j := 8) (e := (r9.2.1 == r10.2.1)) (want := true) rfl hb15 ?_
       refine o_int (v := .b (r9.2.2 == r10.2.2)) (by decide) rfl rfl rfl ?_
       refine o_pickT (v := .b (r9.2.2 == r10.2.2)) (e := (r9.2.1 == r10.2.1)) (by decide) rfl hb15 rfl ?_
       refine o_move (v := .b (r9.2.2 == r10.2.2)) (by decide) rfl ?_
       rcases Bool.eq_false_or_eq_true (r9.2.2 == r10.2.2) with hb16 | hb16
       ·replace hM := ifT hM hb16
        refine o_guardY (j := 13) (e := (r9.2.2 == r10.2.2)) (want := true) rfl hb16 ?_
        refine o_move (v := .i r11.1) (by decide) rfl ?_
        refine o_guardY (j := 13) (e := (r9.2.2 == r10.2.2)) (want := true) rfl hb16 ?_
        refine o_move (v := .i r12.1) (by decide) rfl ?_
        refine o_guardY (j := 13) (e := (r9.2.2 == r10.2.2)) (want := true) rfl hb16 ?_
        refine o_int (v := .b (r11.1 == r12.1)) (by decide) rfl rfl rfl ?_
        refine o_pickT (v := .b (r11.1 == r12.1)) (e := (r9.2.2 == r10.2.2)) (by decide) rfl hb16 rfl ?_
        refine o_move (v := .b (r11.1 == r12.1)) (by decide) rfl ?_
        rcases Bool.eq_false_or_eq_true (r11.1 == r12.1) with hb17 | hb17
        ·replace hM := ifT hM hb17
         refine o_guardY (j := 18) (e := (r11.1 == r12.1)) (want := true) rfl hb17 ?_
         refine o_move (v := .i r11.2) (by decide) rfl ?_
         refine o_guardY (j := 18) (e := (r11.1 == r12.1)) (want := true) rfl hb17 ?_
         refine o_move (v := .i r12.2) (by decide) rfl ?_
         refine o_guardY (j := 18) (e := (r11.1 == r12.1)) (want := true) rfl hb17 ?_
         refine o_int (v := .b (r11.2 == r12.2)) (by decide) rfl rfl rfl ?_
         refine o_pickT (v := .b (r11.2 == r12.2)) (e := (r11.1 == r12.1)) (by decide) rfl hb17 rfl ?_
         refine o_move (v := .b (r11.2 == r12.2)) (by decide) rfl ?_
         rcases Bool.eq_false_or_eq_true (r11.2 == r12.2) with hb18 | hb18
         ·replace hM := ifT hM hb18
          refine o_guardY (j := 23) (e := (r11.2 == r12.2)) (want := true) rfl hb18 ?_
          refine o_loadE (v := .agg [.i r4.Round, .sl .no 1 (r4.Notches.map cI), .sl .no 1 (r4.Coins.map cI)]) (by decide) rfl (part_agg ty_agg24 (Nat.le_of_ble_eq_true rfl) rfl) ?_
          refine o_guardY (j := 23) (e := (r11.2 == r12.2)) (want := true) rfl hb18 ?_
          refine o_loadE (v := .agg [.i a0.Round, .sl .no 1 (a0.Notches.map cI), .sl .no 1 (a0.Coins.map cI)]) (by decide) rfl (part_agg ty_agg24 (Nat.le_of_ble_eq_true rfl) rfl) ?_
          refine o_guardY (j := 23) (e := (r11.2 == r12.2)) (want := true) rfl hb18 ?_
          obtain ⟨r19, hr19, hM⟩ := bindE hM
          refine o_call (bs := [.agg [.i r4.Round, .sl .no 1 (r4.Notches.map cI), .sl .no 1 (r4.Coins.map cI)], .agg [.i a0.Round, .sl .no 1 (a0.Notches.map cI), .sl .no 1 (a0.Coins.map cI)]]) (by decide) rfl rfl ((W_law01_same hr19).le (.k (.k .nil))) ?_
          refine o_pickT (v := .b r19) (e := (r11.2 == r12.2)) (by decide) rfl hb18 rfl ?_
          refine o_move (v := .b r19) (by decide) rfl ?_
          rcases Bool.eq_false_or_eq_true r19 with hb20 | hb20
          ·replace hM := ifT hM hb20
           refine o_guardY (j := 28) (e := r19) (want := true) rfl hb20 ?_
           refine o_move (v := .sl (.id (g1 + 2)) 1 (l5.map cI)) (by decide) rfl ?_
           refine o_guardY (j := 28) (e := r19) (want := true) rfl hb20 ?_
           refine o_move (v := .sl .no 1 (a2.map cI)) (by decide) rfl ?_
           refine o_guardY (j := 28) (e := r19) (want := true) rfl hb20 ?_
           obtain ⟨r21, hr21, hM⟩ := bindE hM
           refine o_call (bs := [.sl (.id (g1 + 2)) 1 (l5.map cI), .sl .no 1 (a2.map cI)]) (by decide) rfl rfl ((W_ref01_SameInts hr21).le (.cons (.sl _ _ _) (.k .nil))) ?_
           refine o_pickT (v := .b r21) (e := r19) (by decide) rfl hb20 rfl ?_
           refine o_move (v := .b r21) (by decide) rfl ?_
           rcases Bool.eq_false_or_eq_true r21 with hb22 | hb22
           ·replace hM := ifT hM hb22
            refine o_guardY (j := 33) (e := r21) (want := true) rfl hb22 ?_
            obtain ⟨r23, hr23, hM⟩ := bindE hM
            refine o_call (bs := []) (by decide) rfl rfl ((W_law01_works hr23).le .nil) ?_
            refine o_pickT (v := .b r23) (e := r21) (by decide) rfl hb22 rfl ?_
            refine o_assign (v := .b r23) (by decide) rfl ?_
            refine run_nil ?_
            exact w_goto r23 (.k .nil) ⟨(hS.keep [false] rfl).up (by omega), hM⟩
           ·replace hM := ifF hM hb22
            refine o_guardN (j := 33) (e := r21) (want := true) (by decide) rfl hb22 ?_
            refine o_pickF (v := .b false) (e := r21) (by decide) rfl hb22 rfl ?_
            refine o_assign (v := .b false) (by decide) rfl ?_
            refine run_nil ?_
            exact w_goto false (.k .nil) ⟨(hS.keep [false] rfl).up (by omega), hM⟩
          ·replace hM := ifF hM hb20
           refine o_guardN (j := 28) (e := r19) (want := true) (by decide) rfl hb20 ?_
           refine o_guardN (j := 28) (e := r19) (want := true) (by decide) rfl hb20 ?_
           refine o_guardN (j := 28) (e := r19) (want := true) (by decide) rfl hb20 ?_
           refine o_pickF (v := .b false) (e := r19) (by decide) rfl hb20 rfl ?_
           refine o_move (v := .b false) (by decide) rfl ?_
           refine o_guardN (j := 33) (e := false) (want := true) (by decide) rfl rfl ?_
           refine o_pickF (v := .b false) (e := false) (by decide) rfl rfl rfl ?_
           refine o_assign (v := .b false) (by decide) rfl ?_
           refine run_nil ?_
           exact w_goto false (.k .nil) ⟨(hS.keep [false] rfl).up (by omega), hM⟩
         ·replace hM := ifF hM hb18
          refine o_guardN (j := 23) (e := (r11.2 == r12.2)) (want := true) (by decide) rfl hb18 ?_
          refine o_guardN (j := 23) (e := (r11.2 == r12.2)) (want := true) (by decide) rfl hb18 ?_
          refine o_guardN (j := 23) (e := (r11.2 == r12.2)) (want := true) (by decide) rfl hb18 ?_
          refine o_pickF (v := .b false) (e := (r11.2 == r12.2)) (by decide) rfl hb18 rfl ?_
          refine o_move (v := .b false) (by decide) rfl ?_
          refine o_guardN (j := 28) (e := false) (want := true) (by decide) rfl rfl ?_
          refine o_guardN (j := 28) (e := false) (want := true) (by decide) rfl rfl ?_
          refine o_guardN (j := 28) (e := false) (want := true) (by decide) rfl rfl ?_
          refine o_pickF (v := .b false) (e := false) (by decide) rfl rfl rfl ?_
          refine o_move (v := .b false) (by decide) rfl ?_
          refine o_guardN (j := 33) (e := false) (want := true) (by decide) rfl rfl ?_
          refine o_pickF (v := .b false) (e := false) (by decide) rfl rfl rfl ?_
          refine o_assign (v := .b false) (by decide) rfl ?_
          refine run_nil ?_
          exact w_goto false (.k .nil) ⟨(hS.keep [false] rfl).up (by omega), hM⟩
        ·replace hM := ifF hM hb17
         refine o_guardN (j := 18) (e := (r11.1 == r12.1)) (want := true) (by decide) rfl hb17 ?_
         refine o_guardN (j := 18) (e := (r11.1 == r12.1)) (want := true) (by decide) rfl hb17 ?_
         refine o_guardN (j := 18) (e := (r11.1 == r12.1)) (want := true) (by decide) rfl hb17 ?_
         refine o_pickF (v := .b false) (e := (r11.1 == r12.1)) (by decide) rfl hb17 rfl ?_
         refine o_move (v := .b false) (by decide) rfl ?_
         refine o_guardN (j := 23) (e := false) (want := true) (by decide) rfl rfl ?_
         refine o_guardN (j := 23) (e := false) (want := true) (by decide) rfl rfl ?_
         refine o_guardN (j := 23) (e := false) (want := true) (by decide) rfl rfl ?_
         refine o_pickF (v := .b false) (e := false) (by decide) rfl rfl rfl ?_
         refine o_move (v := .b false) (by decide) rfl ?_
         refine o_guardN (j := 28) (e := false) (want := true) (by decide) rfl rfl ?_
         refine o_guardN (j := 28) (e := false) (want := true) (by decide) rfl rfl ?_
         refine o_guardN (j := 28) (e := false) (want := true) (by decide) rfl rfl ?_
         refine o_pickF (v := .b false) (e := false) (by decide) rfl rfl rfl ?_
         refine o_move (v := .b false) (by decide) rfl ?_
         refine o_guardN (j := 33) (e := false) (want := true) (by decide) rfl rfl ?_
         refine o_pickF (v := .b false) (e := false) (by decide) rfl rfl rfl ?_
         refine o_assign (v := .b false) (by decide) rfl ?_
         refine run_nil ?_
         exact w_goto false (.k .nil) ⟨(hS.keep [false] rfl).up (by omega), hM⟩
       ·replace hM := ifF hM hb16
        refine o_guardN (j := 13) (e := (r9.2.2 == r10.2.2)) (want := true) (by decide) rfl hb16 ?_
        refine o_guardN (j := 13) (e := (r9.2.2 == r10.2.2)) (want := true) (by decide) rfl hb16 ?_
        refine o_guardN (j := 13) (e := (r9.2.2 == r10.2.2)) (want := true) (by decide) rfl hb16 ?_
        refine o_pickF (v := .b false) (e := (r9.2.2 == r10.2.2)) (by decide) rfl hb16 rfl ?_
        refine o_move (v := .b false) (by decide) rfl ?_
        refine o_guardN (j := 18) (e := false) (want := true) (by decide) rfl rfl ?_
        refine o_guardN (j := 18) (e := false) (want := true) (by decide) rfl rfl ?_
        refine o_guardN (j := 18) (e := false) (want := true) (by decide) rfl rfl ?_
        refine o_pickF (v := .b false) (e := false) (by decide) rfl rfl rfl ?_
        refine o_move (v := .b false) (by decide) rfl ?_
        refine o_guardN (j := 23) (e := false) (want := true) (by decide) rfl rfl ?_
        refine o_guardN (j := 23) (e := false) (want := true) (by decide) rfl rfl ?_
        refine o_guardN (j := 23) (e := false) (want := true) (by decide) rfl rfl ?_
        refine o_pickF (v := .b false) (e := false) (by decide) rfl rfl rfl ?_
        refine o_move (v := .b false) (by decide) rfl ?_
        refine o_guardN (j := 28) (e := false) (want := true) (by decide) rfl rfl ?_
        refine o_guardN (j := 28) (e := false) (want := true) (by decide) rfl rfl ?_
        refine o_guardN (j := 28) (e := false) (want := true) (by decide) rfl rfl ?_
        refine o_pickF (v := .b false) (e := false) (by decide) rfl rfl rfl ?_
        refine o_move (v := .b false) (by decide) rfl ?_
        refine o_guardN (j := 33) (e := false) (want := true) (by decide) rfl rfl ?_
        refine o_pickF (v := .b false) (e := false) (by decide) rfl rfl rfl ?_
        refine o_assign (v := .b false) (by decide) rfl ?_
        refine run_nil ?_
        exact w_goto false (.k .nil) ⟨(hS.keep [false] rfl).up (by omega), hM⟩
      ·replace hM := ifF hM hb15
       refine o_guardN (j := 8) (e := (r9.2.1 == r10.2.1)) (want := true) (by decide) rfl hb15 ?_
       refine o_guardN (j := 8) (e := (r9.2.1 == r10.2.1)) (want := true) (by decide) rfl hb15 ?_
       refine o_guardN (j := 8) (e := (r9.2.1 == r10.2.1)) (want := true) (by decide) rfl hb15 ?_
       refine o_pickF (v := .b false) (e := (r9.2.1 == r10.2.1)) (by decide) rfl hb15 rfl ?_
       refine o_move (v := .b false) (by decide) rfl ?_
       refine o_guardN (j := 13) (e := false) (want := true) (by decide) rfl rfl ?_
       refine o_guardN (j := 13) (e := false) (want := true) (by decide) rfl rfl ?_
       refine o_guardN (j := 13) (e := false) (want := true) (by decide) rfl rfl ?_
       refine o_pickF (v := .b false) (e := false) (by decide) rfl rfl rfl ?_
       refine o_move (v := .b false) (by decide) rfl ?_
       refine o_guardN (j := 18) (e := false) (want := true) (by decide) rfl rfl ?_
       refine o_guardN (j := 18) (e := false) (want := true) (by decide) rfl rfl ?_
       refine o_guardN (j := 18) (e := false) (want := true) (by decide) rfl rfl ?_
       refine o_pickF (v := .b false) (e := false) (by decide) rfl rfl rfl ?_
       refine o_move (v := .b false) (by decide) rfl ?_
       refine o_guardN (j := 23) (e := false) (want := true) (by decide) rfl rfl ?_
       refine o_guardN (j := 23) (e := false) (want := true) (by decide) rfl rfl ?_
       refine o_guardN (j := 23) (e := false) (want := true) (by decide) rfl rfl ?_
       refine o_pickF (v := .b false) (e := false) (by decide) rfl rfl rfl ?_
       refine o_move (v := .b false) (by decide) rfl ?_
       refine o_guardN (j := 28) (e := false) (want := true) (by decide) rfl rfl ?_
       refine o_guardN (j := 28) (e := false) (want := true) (by decide) rfl rfl ?_
       refine o_guardN (j := 28) (e := false) (want := true) (by decide) rfl rfl ?_
       refine o_pickF (v := .b false) (e := false) (by decide) rfl rfl rfl ?_
       refine o_move (v := .b false) (by decide) rfl ?_
       refine o_guardN (j := 33) (e := false) (want := true) (by decide) rfl rfl ?_
       refine o_pickF (v := .b false) (e := false) (by decide) rfl rfl rfl ?_
       refine o_assign (v := .b false) (by decide) rfl ?_
       refine run_nil ?_
       exact w_goto false (.k .nil) ⟨(hS.keep [false] rfl).up (by omega), hM⟩
     ·replace hM := ifF hM hb14
      refine o_guardN (j := 3) (e := ((r9.1.Place == r10.1.Place) && ((r9.1.Credit == r10.1.Credit) && true))) (want := true) (by decide) rfl hb14 ?_
      refine o_guardN (j := 3) (e := ((r9.1.Place == r10.1.Place) && ((r9.1.Credit == r10.1.Credit) && true))) (want := true) (by decide) rfl hb14 ?_
      refine o_guardN (j := 3) (e := ((r9.1.Place == r10.1.Place) && ((r9.1.Credit == r10.1.Credit) && true))) (want := true) (by decide) rfl hb14 ?_
      refine o_pickF (v := .b false) (e := ((r9.1.Place == r10.1.Place) && ((r9.1.Credit == r10.1.Credit) && true))) (by decide) rfl hb14 rfl ?_
      refine o_move (v := .b false) (by decide) rfl ?_
      refine o_guardN (j := 8) (e := false) (want := true) (by decide) rfl rfl ?_
      refine o_guardN (j := 8) (e := false) (want := true) (by decide) rfl rfl ?_
      refine o_guardN (j := 8) (e := false) (want := true) (by decide) rfl rfl ?_
      refine o_pickF (v := .b false) (e := false) (by decide) rfl rfl rfl ?_
      refine o_move (v := .b false) (by decide) rfl ?_
      refine o_guardN (j := 13) (e := false) (want := true) (by decide) rfl rfl ?_
      refine o_guardN (j := 13) (e := false) (want := true) (by decide) rfl rfl ?_
      refine o_guardN (j := 13) (e := false) (want := true) (by decide) rfl rfl ?_
      refine o_pickF (v := .b false) (e := false) (by decide) rfl rfl rfl ?_
      refine o_move (v := .b false) (by decide) rfl ?_
      refine o_guardN (j := 18) (e := false) (want := true) (by decide) rfl rfl ?_
      refine o_guardN (j := 18) (e := false) (want := true) (by decide) rfl rfl ?_
      refine o_guardN (j := 18) (e := false) (want := true) (by decide) rfl rfl ?_
      refine o_pickF (v := .b false) (e := false) (by decide) rfl rfl rfl ?_
      refine o_move (v := .b false) (by decide) rfl ?_
      refine o_guardN (j := 23) (e := false) (want := true) (by decide) rfl rfl ?_
      refine o_guardN (j := 23) (e := false) (want := true) (by decide) rfl rfl ?_
      refine o_guardN (j := 23) (e := false) (want := true) (by decide) rfl rfl ?_
      refine o_pickF (v := .b false) (e := false) (by decide) rfl rfl rfl ?_
      refine o_move (v := .b false) (by decide) rfl ?_
      refine o_guardN (j := 28) (e := false) (want := true) (by decide) rfl rfl ?_
      refine o_guardN (j := 28) (e := false) (want := true) (by decide) rfl rfl ?_
      refine o_guardN (j := 28) (e := false) (want := true) (by decide) rfl rfl ?_
      refine o_pickF (v := .b false) (e := false) (by decide) rfl rfl rfl ?_
      refine o_move (v := .b false) (by decide) rfl ?_
      refine o_guardN (j := 33) (e := false) (want := true) (by decide) rfl rfl ?_
      refine o_pickF (v := .b false) (e := false) (by decide) rfl rfl rfl ?_
      refine o_assign (v := .b false) (by decide) rfl ?_
      refine run_nil ?_
      exact w_goto false (.k .nil) ⟨(hS.keep [false] rfl).up (by omega), hM⟩
 ·refine r_region (n := 7) rfl ?_
  refine o_loadE (v := .agg [.i a0.Round, .sl .no 1 (a0.Notches.map cI), .sl .no 1 (a0.Coins.map cI)]) (by decide) rfl (part_agg ty_agg24 (Nat.le_of_ble_eq_true rfl) rfl) ?_
  obtain ⟨r24, hr24, hM⟩ := bindE hM
  refine o_call (bs := [.agg [.i a0.Round, .sl .no 1 (a0.Notches.map cI), .sl .no 1 (a0.Coins.map cI)]]) (by decide) rfl rfl ((W_law01_far hr24).le (.k .nil)) ?_
  refine o_move (v := .b r24) (by decide) rfl ?_
  rcases Bool.eq_false_or_eq_true r24 with hb25 | hb25
  ·replace hM := ifT hM hb25
   refine o_guardN (j := 2) (e := r24) (want := false) (by decide) rfl hb25 ?_
   refine o_guardN (j := 2) (e := r24) (want := false) (by decide) rfl hb25 ?_
   refine o_guardN (j := 2) (e := r24) (want := false) (by decide) rfl hb25 ?_
   refine o_pickT (v := .b true) (e := r24) (by decide) rfl hb25 rfl ?_
   refine run_nil ?_
   exact w_goto true (.k (.k (.k (.k .nil)))) ⟨(hS.keep [] rfl).up (by omega), hM⟩
  ·replace hM := ifF hM hb25
   refine o_guardY (j := 2) (e := r24) (want := false) rfl hb25 ?_
   refine o_move (v := .sl .no 1 (a2.map cI)) (by decide) rfl ?_
   refine o_guardY (j := 2) (e := r24) (want := false) rfl hb25 ?_
   refine o_len (n := a2.length) (by decide) rfl (List.length_map _) ty_isl22 ?_
   refine o_guardY (j := 2) (e := r24) (want := false) rfl hb25 ?_
   refine o_int (v := .b (decide ((a2.length : Int) > 40))) (by decide) rfl rfl rfl ?_
   refine o_pickF (v := .b (decide ((a2.length : Int) > 40))) (e := r24) (by decide) rfl hb25 rfl ?_
   refine run_nil ?_
   exact w_goto (decide ((a2.length : Int) > 40)) (.k (.k (.k (.k .nil)))) ⟨(hS.keep [] rfl).up (by omega), hM⟩
end Go.Proofs.Ytapcibbbmeomkaa
