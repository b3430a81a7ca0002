/-
  The code returns what the functions say (printed by gen.py).
  Conditions: none.
-/
import Derived.Test.YtapcibbbmeomkaaWkCoinsSeen2
import Derived.Test.YtapcibbbmeomkaaSh
set_option linter.all false
namespace Go.Proofs.Ytapcibbbmeomkaa
open Go Go.AM Go.Law
set_option linter.unusedVariables false
set_option maxRecDepth 4000
set_option maxHeartbeats 4000000
theorem W_ref01_Rising {n : Nat} {a0 : List Int} {a1 : Int} {a2 : Int} {r : Bool} (hM : ref01_Rising n a0 a1 a2 = some r) : PureSat Try.prog 73 [.sl .no 1 (a0.map cI), .i a1, .i a2] (.b r) := by
 refine pure_of_wp mixed Try.func73 rfl (by decide) Try.ntmps73 (by simp) ?pure fun H0 g hf => ?_
 case pure => exact .v _
 rw [frame0_of]
 change wpA _ _ _ _ (Fr.of [(0, .sl .no 1 (a0.map cI)), (1, .i a1), (2, .i a2)]) H0 g
 have hS := St.start hf
 refine r_seq ?_
 refine r_region (n := 1) rfl ?_
 refine o_assign (v := .b false) (by decide) rfl ?_
 refine run_nil ?_
 refine w_next [(0, .sl .no 1 (a0.map cI)), (1, .i a1), (2, .i a2)] (.k (.k (.k .nil))) ?_
 refine w_join (J := Unit) (fun j => []) (fun j H' g' => St (· < g) H0 [] H' g' ∧ ref01_Rising_j1 = some r) ?_ ?_
 ·rintro _ H g1 ⟨hS, hM⟩
  change wpA _ _ _ _ (Fr.of []) _ _
  replace hS : St (· < g) H0 [] H g1 := hS
  replace hM : ref01_Rising_j1 = some r := hM
  refine r_seq ?_
  refine r_region (n := 1) rfl ?_
  refine o_assign (v := .b true) (by decide) rfl ?_
  refine run_nil ?_
  refine w_next [(6, .b true)] (.k .nil) ?_
  refine r_ret ?_
  refine w_end (x := .b true) (f := fun r => .b r) (.inr rfl) ?_ (.refl _) (Option.some.inj hM) hS
  exact (res_one (res_tmp (x := .b true) rfl))
 ·refine r_seq ?_
  refine r_region (n := 1) rfl ?_
  refine o_assign (v := .i 0) (by decide) rfl ?_
  refine run_nil ?_
  refine w_next [(0, .sl .no 1 (a0.map cI)), (1, .i a1), (2, .i a2), (7, .i 0)] (.k (.k (.k (.k .nil)))) ?_
  refine r_block ?_
  refine w_loop (V := Int) (fun v => [(0, .sl .no 1 (a0.map cI)), (1, .i a1), (2, .i a2), (7, .i v)]) (fun v m2 H' g' => St (· < g) H0 [] H' g' ∧ ref01_Rising_l1 a0 a1 a2 m2 v = some r) (n := n) 0 (.k (.k (.k (.k .nil)))) ⟨(hS.keep [] rfl).up (by omega), hM⟩ ?_
  rintro v1 m2 H g2 ⟨hS, hM⟩
  obtain _ | m2 := m2
  ·exact nomatch (show none = some _ from hM)
  change wpA _ _ _ _ (Fr.of [(0, .sl .no 1 (a0.map cI)), (1, .i a1), (2, .i a2), (7, .i v1)]) _ _
  replace hS : St (· < g) H0 [] H g2 := hS
  replace hM : ref01_Rising_l1_b a0 a1 a2 (ref01_Rising_l1 a0 a1 a2 m2) v1 = some r := hM
  refine r_seq ?_
  refine r_seq ?_
  refine r_region (n := 4) rfl ?_
  refine o_move (v := .i v1) (by decide) rfl ?_
  refine o_move (v := .sl .no 1 (a0.map cI)) (by decide) rfl ?_
  refine o_len (n := a0.length) (by decide) rfl (List.length_map _) ty_isl22 ?_
  refine o_int (v := .b (decide (v1 < (a0.length : Int)))) (by decide) rfl rfl rfl ?_
  refine run_nil ?_
  refine w_next [(0, .sl .no 1 (a0.map cI)), (1, .i a1), (2, .i a2), (7, .i v1), (11, .b (decide (v1 < (a0.length : Int))))] (.k (.k (.k (.k (.k .nil))))) ?_
  rcases Bool.eq_false_or_eq_true (decide (v1 < (a0.length : Int))) with hb2 | hb2
  ·replace hM := ifT hM hb2
   refine w_condT (e := (decide (v1 < (a0.length : Int)))) rfl hb2 ?_
   refine r_skip ?_
   refine w_next [(0, .sl .no 1 (a0.map cI)), (1, .i a1), (2, .i a2), (7, .i v1)] (.k (.k (.k (.k .nil)))) ?_
   refine r_seq ?_
   refine r_block ?_
   refine w_join (J := Bool) (fun j => [(0, .sl .no 1 (a0.map cI)), (1, .i a1), (2, .i a2), (7, .i v1), (37, .b j)]) (fun j H' g' => St (· < g) H0 [] H' g' ∧ ref01_Rising_j2 (ref01_Rising_l1 a0 a1 a2 m2) v1 j = some r) ?_ ?_
   ·rintro v3 H g3 ⟨hS, hM⟩
    change wpA _ _ _ _ (Fr.of [(0, .sl .no 1 (a0.map cI)), (1, .i a1), (2, .i a2), (7, .i v1), (37, .b v3)]) _ _
    replace hS : St (· < g) H0 [] H g3 := hS
    replace hM : ref01_Rising_j2 (ref01_Rising_l1 a0 a1 a2 m2) v1 v3 = some r := hM
    rcases Bool.eq_false_or_eq_true v3 with hb4 | hb4
    ·replace hM := ifT hM hb4
     refine w_condT (e := v3) rfl hb4 ?_
     refine r_seq ?_
     refine r_region (n := 1) rfl ?_
     refine o_assign (v := .b false) (by decide) rfl ?_
     refine run_nil ?_
     refine w_next [(6, .b false)] (.k .nil) ?_
     refine r_ret ?_
     refine r_blk_ret ?_
     refine r_then_ret ?_
     refine w_round_ret ?_
     refine r_blk_ret ?_
     refine w_goto_ret ?_
     refine w_end (x := .b false) (f := fun r => .b r) (.inr rfl) ?_ (.refl _) (Option.some.inj hM) hS
     exact (res_one (res_tmp (x := .b false) rfl))
    ·replace hM := ifF hM hb4
     refine w_condF (e := v3) rfl hb4 ?_
     refine r_skip ?_
     refine r_blk_normal ?_
     refine w_next [(0, .sl .no 1 (a0.map cI)), (1, .i a1), (2, .i a2), (7, .i v1)] (.k (.k (.k (.k .nil)))) ?_
     refine r_region (n := 3) rfl ?_
     refine o_move (v := .i v1) (by decide) rfl ?_
     refine o_int (v := .i (w64 (v1 + 1))) (by decide) rfl rfl rfl ?_
     refine o_assign (v := .i (w64 (v1 + 1))) (by decide) rfl ?_
     refine run_nil ?_
     exact w_round (w64 (v1 + 1)) (Nat.lt_succ_self _) (.k (.k (.k (.k .nil)))) ⟨(hS.keep [] rfl).up (by omega), hM⟩
   ·have hS0 := hS
    refine r_draw (n := 24) rfl (by kernel_rfl) ?_
    refine o_move (v := .sl .no 1 (a0.map cI)) (by decide) rfl ?_
    refine o_move (v := .i v1) (by decide) rfl ?_
    obtain ⟨x5, hx5, hM⟩ := bindE hM
    refine o_index (xs := a0) (f := cI) (z := v1) (u := x5) (by decide) rfl rfl ty_es22 hx5 ?_
    refine o_loadE (v := .i x5) (by decide) rfl (part_one ty_agg3 ty_sc3 rfl) ?_
    refine o_move (v := .i a1) (by decide) rfl ?_
    refine o_move (v := .i a2) (by decide) rfl ?_
    obtain ⟨r6, hr6, hM⟩ := bindE hM
    refine o_call (bs := [.i x5, .i a1, .i a2]) (by decide) rfl rfl ((W_ref01_Within hr6).le (.k (.k (.k .nil)))) ?_
    refine o_not (e := r6) (by decide) rfl ?_
    refine o_move (v := .b (!r6)) (by decide) rfl ?_
    rcases Bool.eq_false_or_eq_true (!r6) with hb7 | hb7
    ·replace hM := ifT hM hb7
     refine o_guardN (j := 8) (e := (!r6)) (want := false) (by decide) rfl hb7 ?_
     refine o_guardN (j := 8) (e := (!r6)) (want := false) (by decide) rfl hb7 ?_
     refine o_guardN (j := 8) (e := (!r6)) (want := false) (by decide) rfl hb7 ?_
     refine o_guardU (j := 11) (by decide) rfl ?_
     refine o_guardU (j := 11) (by decide) rfl ?_
     refine o_guardU (j := 11) (by decide) rfl ?_
     refine o_guardU (j := 11) (by decide) rfl ?_
     refine o_guardU (j := 11) (by decide) rfl ?_
     refine o_guardU (j := 11) (by decide) rfl ?_
     refine o_guardU (j := 11) (by decide) rfl ?_
     refine o_guardU (j := 11) (by decide) rfl ?_
     refine o_guardU (j := 11) (by decide) rfl ?_
     refine o_guardU (j := 11) (by decide) rfl ?_
     refine o_guardN (j := 8) (e := (!r6)) (want := false) (by decide) rfl hb7 ?_
     refine o_pickT (v := .b true) (e := (!r6)) (by decide) rfl hb7 rfl ?_
     refine run_nil ?_
     exact w_goto true (.k (.k (.k (.k (.k .nil))))) ⟨(hS.keep [] rfl).up (by omega), hM⟩
    ·replace hM := ifF hM hb7
     refine o_guardY (j := 8) (e := (!r6)) (want := false) rfl hb7 ?_
     refine o_move (v := .i v1) (by decide) rfl ?_
     refine o_guardY (j := 8) (e := (!r6)) (want := false) rfl hb7 ?_
     refine o_int (v := .b (decide (v1 > 0))) (by decide) rfl rfl rfl ?_
     refine o_guardY (j := 8) (e := (!r6)) (want := false) rfl hb7 ?_
     refine o_move (v := .b (decide (v1 > 0))) (by decide) rfl ?_
     rcases Bool.eq_false_or_eq_true (decide (v1 > 0)) with hb8 | hb8
     ·replace hM := ifT hM hb8
      refine o_guardY (j := 11) (e := (decide (v1 > 0))) (want := true) rfl hb8 ?_
      refine o_move (v := .sl .no 1 (a0.map cI)) (by decide) rfl ?_
      refine o_guardY (j := 11) (e := (decide (v1 > 0))) (want := true) rfl hb8 ?_
      refine o_move (v := .i v1) (by decide) rfl ?_
      refine o_guardY (j := 11) (e := (decide (v1 > 0))) (want := true) rfl hb8 ?_
      obtain ⟨x9, hx9, hM⟩ := bindE hM
      refine o_index (xs := a0) (f := cI) (z := v1) (u := x9) (by decide) rfl rfl ty_es22 hx9 ?_
      refine o_guardY (j := 11) (e := (decide (v1 > 0))) (want := true) rfl hb8 ?_
      refine o_loadE (v := .i x9) (by decide) rfl (part_one ty_agg3 ty_sc3 rfl) ?_
      refine o_guardY (j := 11) (e := (decide (v1 > 0))) (want := true) rfl hb8 ?_
      refine o_move (v := .sl .no 1 (a0.map cI)) (by decide) rfl ?_
      refine o_guardY (j := 11) (e := (decide (v1 > 0))) (want := true) rfl hb8 ?_
      refine o_move (v := .i v1) (by decide) rfl ?_
      refine o_guardY (j := 11) (e := (decide (v1 > 0))) (want := true) rfl hb8 ?_
      refine o_int (v := .i (w64 (v1 - 1))) (by decide) rfl rfl rfl ?_
      refine o_guardY (j := 11) (e := (decide (v1 > 0))) (want := true) rfl hb8 ?_
      obtain ⟨x10, hx10, hM⟩ := bindE hM
      refine o_index (xs := a0) (f := cI) (z := (w64 (v1 - 1))) (u := x10) (by decide) rfl rfl ty_es22 hx10 ?_
      refine o_guardY (j := 11) (e := (decide (v1 > 0))) (want := true) rfl hb8 ?_
      refine o_loadE (v := .i x10) (by decide) rfl (part_one ty_agg3 ty_sc3 rfl) ?_
      refine o_guardY (j := 11) (e := (decide (v1 > 0))) (want := true) rfl hb8 ?_
      refine o_int (v := .b (decide (x9 ≤ x10))) (by decide) rfl rfl rfl ?_
      refine o_guardY (j := 8) (e := (!r6)) (want := false) rfl hb7 ?_
      refine o_pickT (v := .b (decide (x9 ≤ x10))) (e := (decide (v1 > 0))) (by decide) rfl hb8 rfl ?_
      refine o_pickF (v := .b (decide (x9 ≤ x10))) (e := (!r6)) (by decide) rfl hb7 rfl ?_
      refine run_nil ?_
      exact w_goto (decide (x9 ≤ x10)) (.k (.k (.k (.k (.k .nil))))) ⟨(hS.keep [] rfl).up (by omega), hM⟩
     ·replace hM := ifF hM hb8
      refine o_guardN (j := 11) (e := (decide (v1 > 0))) (want := true) (by decide) rfl hb8 ?_
      refine o_guardN (j := 11) (e := (decide (v1 > 0))) (want := true) (by decide) rfl hb8 ?_
      refine o_guardN (j := 11) (e := (decide (v1 > 0))) (want := true) (by decide) rfl hb8 ?_
      refine o_guardN (j := 11) (e := (decide (v1 > 0))) (want := true) (by decide) rfl hb8 ?_
      refine o_guardN (j := 11) (e := (decide (v1 > 0))) (want := true) (by decide) rfl hb8 ?_
      refine o_guardN (j := 11) (e := (decide (v1 > 0))) (want := true) (by decide) rfl hb8 ?_
      refine o_guardN (j := 11) (e := (decide (v1 > 0))) (want := true) (by decide) rfl hb8 ?_
      refine o_guardN (j := 11) (e := (decide (v1 > 0))) (want := true) (by decide) rfl hb8 ?_
      refine o_guardN (j := 11) (e := (decide (v1 > 0))) (want := true) (by decide) rfl hb8 ?_
      refine o_guardN (j := 11) (e := (decide (v1 > 0))) (want := true) (by decide) rfl hb8 ?_
      refine o_guardY (j := 8) (e := (!r6)) (want := false) rfl hb7 ?_
      refine o_pickF (v := .b false) (e := (decide (v1 > 0))) (by decide) rfl hb8 rfl ?_
      refine o_pickF (v := .b false) (e := (!r6)) (by decide) rfl hb7 rfl ?_
      refine run_nil ?_
      exact w_goto false (.k (.k (.k (.k (.k .nil))))) ⟨(hS.keep [] rfl).up (by omega), hM⟩
  ·replace hM := ifF hM hb2
   refine w_condF (e := (decide (v1 < (a0.length : Int)))) rfl hb2 ?_
   refine r_exit ?_
   refine r_then_exit ?_
   refine w_round_exit ?_
   refine r_blk_exit ?_
   exact w_goto () .nil ⟨(hS.keep [] rfl).up (by omega), hM⟩
theorem W_ref01_Check {n : Nat} {a0 : Wheel} {r : Int} (hM : ref01_Check n a0 = some r) : PureSat Try.prog 39 [.agg [.i a0.Round, .sl .no 1 (a0.Notches.map cI), .sl .no 1 (a0.Coins.map cI)]] (.i r) := by
 refine pure_of_wp mixed Try.func39 rfl (by decide) Try.ntmps39 (by simp) ?pure fun H0 g hf => ?_
 case pure => exact .v _
 rw [frame0_of]
 change wpA _ _ _ _ (Fr.of [(0, .agg [.i a0.Round, .sl .no 1 (a0.Notches.map cI), .sl .no 1 (a0.Coins.map cI)])]) H0 g
 have hS := St.start hf
 refine r_seq ?_
 refine r_region (n := 2) rfl ?_
 refine o_box (v := .agg [.i a0.Round, .sl .no 1 (a0.Notches.map cI), .sl .no 1 (a0.Coins.map cI)]) (cs := [.i a0.Round, .sl .no 1 (a0.Notches.map cI), .sl .no 1 (a0.Coins.map cI)]) hS (by decide) rfl rfl (by omega) fun H hS => ?_
 refine o_assign (v := .i 0) (by decide) rfl ?_
 refine run_nil ?_
 refine w_iceE (L' := []) 0 1 hS rfl rfl rfl fun H hS => ?_
 refine w_next [(1, .ep [.i a0.Round, .sl .no 1 (a0.Notches.map cI), .sl .no 1 (a0.Coins.map cI)])] (.k .nil) ?_
 refine r_seq ?_
 refine w_join (J := Bool) (fun j => [(32, .b j)]) (fun j H' g' => St (· < g) H0 [] H' g' ∧ ref01_Check_j1 j = some r) ?_ ?_
 ·rintro v1 H g1 ⟨hS, hM⟩
  change wpA _ _ _ _ (Fr.of [(32, .b v1)]) _ _
  replace hS : St (· < g) H0 [] H g1 := hS
  replace hM : ref01_Check_j1 v1 = some r := hM
  rcases Bool.eq_false_or_eq_true v1 with hb2 | hb2
  ·replace hM := ifT hM hb2
   refine w_condT (e := v1) rfl hb2 ?_
   refine r_seq ?_
   refine r_region (n := 1) rfl ?_
   refine o_assign (v := .i 10) (by decide) rfl ?_
   refine run_nil ?_
   refine w_next [(2, .i 10)] (.k .nil) ?_
   refine r_ret ?_
   refine r_then_ret ?_
   refine w_end (x := .i 10) (f := fun r => .i r) (.inr rfl) ?_ (.refl _) (Option.some.inj hM) hS
   exact (res_one (res_tmp (x := .i 10) rfl))
  ·replace hM := ifF hM hb2
   refine w_condF (e := v1) rfl hb2 ?_
   refine r_skip ?_
   refine w_next [] .nil ?_
   refine r_seq ?_
   refine r_region (n := 1) rfl ?_
   refine o_assign (v := .i 0) (by decide) rfl ?_
   refine run_nil ?_
   refine w_next [(2, .i 0)] (.k .nil) ?_
   refine r_ret ?_
   refine w_end (x := .i 0) (f := fun r => .i r) (.inr rfl) ?_ (.refl _) (Option.some.inj hM) hS
   exact (res_one (res_tmp (x := .i 0) rfl))
 ·refine r_region (n := 30) rfl ?_
  refine o_fieldE (cs := [.i a0.Round, .sl .no 1 (a0.Notches.map cI), .sl .no 1 (a0.Coins.map cI)]) (by decide) ty_fo24_0 rfl ?_
  refine o_loadE (v := .i a0.Round) (by decide) rfl (part_one ty_agg3 ty_sc3 rfl) ?_
  obtain ⟨r3, hr3, hM⟩ := bindE hM
  refine o_call (bs := [.i a0.Round, .i 1, .i 200]) (by decide) rfl rfl ((W_ref01_Within hr3).le (.k (.k (.k .nil)))) ?_
  refine o_not (e := r3) (by decide) rfl ?_
  refine o_move (v := .b (!r3)) (by decide) rfl ?_
  rcases Bool.eq_false_or_eq_true (!r3) with hb4 | hb4
  ·replace hM := ifT hM hb4
   refine o_guardN (j := 4) (e := (!r3)) (want := false) (by decide) rfl hb4 ?_
   refine o_guardN (j := 4) (e := (!r3)) (want := false) (by decide) rfl hb4 ?_
   refine o_guardN (j := 4) (e := (!r3)) (want := false) (by decide) rfl hb4 ?_
   refine o_guardN (j := 4) (e := (!r3)) (want := false) (by decide) rfl hb4 ?_
   refine o_pickT (v := .b true) (e := (!r3)) (by decide) rfl hb4 rfl ?_
   refine o_move (v := .b true) (by decide) rfl ?_
   refine o_guardN (j := 10) (e := true) (want := false) (by decide) rfl rfl ?_
   refine o_guardN (j := 10) (e := true) (want := false) (by decide) rfl rfl ?_
   refine o_guardN (j := 10) (e := true) (want := false) (by decide) rfl rfl ?_
   refine o_guardN (j := 10) (e := true) (want := false) (by decide) rfl rfl ?_
   refine o_guardN (j := 10) (e := true) (want := false) (by decide) rfl rfl ?_
   refine o_guardN (j := 10) (e := true) (want := false) (by decide) rfl rfl ?_
   refine o_pickT (v := .b true) (e := true) (by decide) rfl rfl rfl ?_
   refine o_move (v := .b true) (by decide) rfl ?_
   refine o_guardN (j := 18) (e := true) (want := false) (by decide) rfl rfl ?_
   refine o_guardN (j := 18) (e := true) (want := false) (by decide) rfl rfl ?_
   refine o_guardN (j := 18) (e := true) (want := false) (by decide) rfl rfl ?_
   refine o_guardN (j := 18) (e := true) (want := false) (by decide) rfl rfl ?_
   refine o_pickT (v := .b true) (e := true) (by decide) rfl rfl rfl ?_
   refine o_move (v := .b true) (by decide) rfl ?_
   refine o_guardN (j := 24) (e := true) (want := false) (by decide) rfl rfl ?_
   refine o_guardN (j := 24) (e := true) (want := false) (by decide) rfl rfl ?_
   refine o_guardN (j := 24) (e := true) (want := false) (by decide) rfl rfl ?_
   refine o_guardN (j := 24) (e := true) (want := false) (by decide) rfl rfl ?_
   refine o_pickT (v := .b true) (e := true) (by decide) rfl rfl rfl ?_
   refine run_nil ?_
   exact w_goto true (.k .nil) ⟨(hS.keep [] rfl).up (by omega), hM⟩
  ·replace hM := ifF hM hb4
   refine o_guardY (j := 4) (e := (!r3)) (want := false) rfl hb4 ?_
   refine o_fieldE (cs := [.i a0.Round, .sl .no 1 (a0.Notches.map cI), .sl .no 1 (a0.Coins.map cI)]) (by decide) ty_fo24_1 rfl ?_
   refine o_guardY (j := 4) (e := (!r3)) (want := false) rfl hb4 ?_
   refine o_loadE (v := .sl .no 1 (a0.Notches.map cI)) (by decide) rfl (part_one ty_agg22 ty_sc22 rfl) ?_
   refine o_guardY (j := 4) (e := (!r3)) (want := false) rfl hb4 ?_
   refine o_len (n := a0.Notches.length) (by decide) rfl (List.length_map _) ty_isl22 ?_
   refine o_guardY (j := 4) (e := (!r3)) (want := false) rfl hb4 ?_
   refine o_int (v := .b (decide ((a0.Notches.length : Int) > 12))) (by decide) rfl rfl rfl ?_
   refine o_pickF (v := .b (decide ((a0.Notches.length : Int) > 12))) (e := (!r3)) (by decide) rfl hb4 rfl ?_
   refine o_move (v := .b (decide ((a0.Notches.length : Int) > 12))) (by decide) rfl ?_
   rcases Bool.eq_false_or_eq_true (decide ((a0.Notches.length : Int) > 12)) with hb5 | hb5
   ·replace hM := ifT hM hb5
    refine o_guardN (j := 10) (e := (decide ((a0.Notches.length : Int) > 12))) (want := false) (by decide) rfl hb5 ?_
    refine o_guardN (j := 10) (e := (decide ((a0.Notches.length : Int) > 12))) (want := false) (by decide) rfl hb5 ?_
    refine o_guardN (j := 10) (e := (decide ((a0.Notches.length : Int) > 12))) (want := false) (by decide) rfl hb5 ?_
    refine o_guardN (j := 10) (e := (decide ((a0.Notches.length : Int) > 12))) (want := false) (by decide) rfl hb5 ?_
    refine o_guardN (j := 10) (e := (decide ((a0.Notches.length : Int) > 12))) (want := false) (by decide) rfl hb5 ?_
    refine o_guardN (j := 10) (e := (decide ((a0.Notches.length : Int) > 12))) (want := false) (by decide) rfl hb5 ?_
    refine o_pickT (v := .b true) (e := (decide ((a0.Notches.length : Int) > 12))) (by decide) rfl hb5 rfl ?_
    refine o_move (v := .b true) (by decide) rfl ?_
    refine o_guardN (j := 18) (e := true) (want := false) (by decide) rfl rfl ?_
    refine o_guardN (j := 18) (e := true) (want := false) (by decide) rfl rfl ?_
    refine o_guardN (j := 18) (e := true) (want := false) (by decide) rfl rfl ?_
    refine o_guardN (j := 18) (e := true) (want := false) (by decide) rfl rfl ?_
    refine o_pickT (v := .b true) (e := true) (by decide) rfl rfl rfl ?_
    refine o_move (v := .b true) (by decide) rfl ?_
    refine o_guardN (j := 24) (e := true) (want := false) (by decide) rfl rfl ?_
    refine o_guardN (j := 24) (e := true) (want := false) (by decide) rfl rfl ?_
    refine o_guardN (j := 24) (e := true) (want := false) (by decide) rfl rfl ?_
    refine o_guardN (j := 24) (e := true) (want := false) (by decide) rfl rfl ?_
    refine o_pickT (v := .b true) (e := true) (by decide) rfl rfl rfl ?_
    refine run_nil ?_
    exact w_goto true (.k .nil) ⟨(hS.keep [] rfl).up (by omega), hM⟩
   ·replace hM := ifF hM hb5
    refine o_guardY (j := 10) (e := (decide ((a0.Notches.length : Int) > 12))) (want := false) rfl hb5 ?_
    refine o_fieldE (cs := [.i a0.Round, .sl .no 1 (a0.Notches.map cI), .sl .no 1 (a0.Coins.map cI)]) (by decide) ty_fo24_1 rfl ?_
    refine o_guardY (j := 10) (e := (decide ((a0.Notches.length : Int) > 12))) (want := false) rfl hb5 ?_
    refine o_loadE (v := .sl .no 1 (a0.Notches.map cI)) (by decide) rfl (part_one ty_agg22 ty_sc22 rfl) ?_
    refine o_guardY (j := 10) (e := (decide ((a0.Notches.length : Int) > 12))) (want := false) rfl hb5 ?_
    refine o_fieldE (cs := [.i a0.Round, .sl .no 1 (a0.Notches.map cI), .sl .no 1 (a0.Coins.map cI)]) (by decide) ty_fo24_0 rfl ?_
    refine o_guardY (j := 10) (e := (decide ((a0.Notches.length : Int) > 12))) (want := false) rfl hb5 ?_
    refine o_loadE (v := .i a0.Round) (by decide) rfl (part_one ty_agg3 ty_sc3 rfl) ?_
    refine o_guardY (j := 10) (e := (decide ((a0.Notches.length : Int) > 12))) (want := false) rfl hb5 ?_
    obtain ⟨r6, hr6, hM⟩ := bindE hM
    refine o_call (bs := [.sl .no 1 (a0.Notches.map cI), .i 1, .i a0.Round]) (by decide) rfl rfl ((W_ref01_Rising hr6).le (.k (.k (.k .nil)))) ?_
    refine o_guardY (j := 10) (e := (decide ((a0.Notches.length : Int) > 12))) (want := false) rfl hb5 ?_
    refine o_not (e := r6) (by decide) rfl ?_
    refine o_pickF (v := .b (!r6)) (e := (decide ((a0.Notches.length : Int) > 12))) (by decide) rfl hb5 rfl ?_
    refine o_move (v := .b (!r6)) (by decide) rfl ?_
    rcases Bool.eq_false_or_eq_true (!r6) with hb7 | hb7
    ·replace hM := ifT hM hb7
     refine o_guardN (j := 18) (e := (!r6)) (want := false) (by decide) rfl hb7 ?_
     refine o_guardN (j := 18) (e := (!r6)) (want := false) (by decide) rfl hb7 ?_
     refine o_guardN (j := 18) (e := (!r6)) (want := false) (by decide) rfl hb7 ?_
     refine o_guardN (j := 18) (e := (!r6)) (want := false) (by decide) rfl hb7 ?_
     refine o_pickT (v := .b true) (e := (!r6)) (by decide) rfl hb7 rfl ?_
     refine o_move (v := .b true) (by decide) rfl ?_
     refine o_guardN (j := 24) (e := true) (want := false) (by decide) rfl rfl ?_
     refine o_guardN (j := 24) (e := true) (want := false) (by decide) rfl rfl ?_
     refine o_guardN (j := 24) (e := true) (want := false) (by decide) rfl rfl ?_
     refine o_guardN (j := 24) (e := true) (want := false) (by decide) rfl rfl ?_
     refine o_pickT (v := .b true) (e := true) (by decide) rfl rfl rfl ?_
     refine run_nil ?_
     exact w_goto true (.k .nil) ⟨(hS.keep [] rfl).up (by omega), hM⟩
    ·replace hM := ifF hM hb7
     refine o_guardY (j := 18) (e := (!r6)) (want := false) rfl hb7 ?_
     refine o_fieldE (cs := [.i a0.Round, .sl .no 1 (a0.Notches.map cI), .sl .no 1 (a0.Coins.map cI)]) (by decide) ty_fo24_2 rfl ?_
     refine o_guardY (j := 18) (e := (!r6)) (want := false) rfl hb7 ?_
     refine o_loadE (v := .sl .no 1 (a0.Coins.map cI)) (by decide) rfl (part_one ty_agg22 ty_sc22 rfl) ?_
     refine o_guardY (j := 18) (e := (!r6)) (want := false) rfl hb7 ?_
     refine o_len (n := a0.Coins.length) (by decide) rfl (List.length_map _) ty_isl22 ?_
     refine o_guardY (j := 18) (e := (!r6)) (want := false) rfl hb7 ?_
     refine o_int (v := .b (decide ((a0.Coins.length : Int) > 4))) (by decide) rfl rfl rfl ?_
     refine o_pickF (v := .b (decide ((a0.Coins.length : Int) > 4))) (e := (!r6)) (by decide) rfl hb7 rfl ?_
     refine o_move (v := .b (decide ((a0.Coins.length : Int) > 4))) (by decide) rfl ?_
     rcases Bool.eq_false_or_eq_true (decide ((a0.Coins.length : Int) > 4)) with hb8 | hb8
     ·replace hM := ifT hM hb8
      refine o_guardN (j := 24) (e := (decide ((a0.Coins.length : Int) > 4))) (want := false) (by decide) rfl hb8 ?_
      refine o_guardN (j := 24) (e := (decide ((a0.Coins.length : Int) > 4))) (want := false) (by decide) rfl hb8 ?_
      refine o_guardN (j := 24) (e := (decide ((a0.Coins.length : Int) > 4))) (want := false) (by decide) rfl hb8 ?_
      refine o_guardN (j := 24) (e := (decide ((a0.Coins.length : Int) > 4))) (want := false) (by decide) rfl hb8 ?_
      refine o_pickT (v := .b true) (e := (decide ((a0.Coins.length : Int) > 4))) (by decide) rfl hb8 rfl ?_
      refine run_nil ?_
      exact w_goto true (.k .nil) ⟨(hS.keep [] rfl).up (by omega), hM⟩
     ·replace hM := ifF hM hb8
      refine o_guardY (j := 24) (e := (decide ((a0.Coins.length : Int) > 4))) (want := false) rfl hb8 ?_
      refine o_fieldE (cs := [.i a0.Round, .sl .no 1 (a0.Notches.map cI), .sl .no 1 (a0.Coins.map cI)]) (by decide) ty_fo24_2 rfl ?_
      refine o_guardY (j := 24) (e := (decide ((a0.Coins.length : Int) > 4))) (want := false) rfl hb8 ?_
      refine o_loadE (v := .sl .no 1 (a0.Coins.map cI)) (by decide) rfl (part_one ty_agg22 ty_sc22 rfl) ?_
      refine o_guardY (j := 24) (e := (decide ((a0.Coins.length : Int) > 4))) (want := false) rfl hb8 ?_
      obtain ⟨r9, hr9, hM⟩ := bindE hM
      refine o_call (bs := [.sl .no 1 (a0.Coins.map cI), .i 1, .i 100]) (by decide) rfl rfl ((W_ref01_Rising hr9).le (.k (.k (.k .nil)))) ?_
      refine o_guardY (j := 24) (e := (decide ((a0.Coins.length : Int) > 4))) (want := false) rfl hb8 ?_
      refine o_not (e := r9) (by decide) rfl ?_
      refine o_pickF (v := .b (!r9)) (e := (decide ((a0.Coins.length : Int) > 4))) (by decide) rfl hb8 rfl ?_
      refine run_nil ?_
      exact w_goto (!r9) (.k .nil) ⟨(hS.keep [] rfl).up (by omega), hM⟩
theorem W_ref01_In {n : Nat} {a0 : List Int} {a1 : Int} {r : Bool} (hM : ref01_In n a0 a1 = some r) : PureSat Try.prog 27 [.sl .no 1 (a0.map cI), .i a1] (.b r) := by
 refine pure_of_wp mixed Try.func27 rfl (by decide) Try.ntmps27 (by simp) ?pure fun H0 g hf => ?_
 case pure => exact .v _
 rw [frame0_of]
 change wpA _ _ _ _ (Fr.of [(0, .sl .no 1 (a0.map cI)), (1, .i a1)]) H0 g
 have hS := St.start hf
 refine r_seq ?_
 refine r_region (n := 1) rfl ?_
 refine o_assign (v := .b false) (by decide) rfl ?_
 refine run_nil ?_
 refine w_next [(0, .sl .no 1 (a0.map cI)), (1, .i a1)] (.k (.k .nil)) ?_
 refine w_join (J := Unit) (fun j => []) (fun j H' g' => St (· < g) H0 [] H' g' ∧ ref01_In_j1 = some r) ?_ ?_
 ·rintro _ H g1 ⟨hS, hM⟩
  change wpA _ _ _ _ (Fr.of []) _ _
  replace hS : St (· < g) H0 [] H g1 := hS
  replace hM : ref01_In_j1 = some r := hM
  refine r_seq ?_
  refine r_region (n := 1) rfl ?_
  refine o_assign (v := .b false) (by decide) rfl ?_
  refine run_nil ?_
  refine w_next [(4, .b false)] (.k .nil) ?_
  refine r_ret ?_
  refine w_end (x := .b false) (f := fun r => .b r) (.inr rfl) ?_ (.refl _) (Option.some.inj hM) hS
  exact (res_one (res_tmp (x := .b false) rfl))
 ·refine r_seq ?_
  refine r_region (n := 1) rfl ?_
  refine o_assign (v := .i 0) (by decide) rfl ?_
  refine run_nil ?_
  refine w_next [(0, .sl .no 1 (a0.map cI)), (1, .i a1), (5, .i 0)] (.k (.k (.k .nil))) ?_
  refine r_block ?_
  refine w_loop (V := Int) (fun v => [(0, .sl .no 1 (a0.map cI)), (1, .i a1), (5, .i v)]) (fun v m2 H' g' => St (· < g) H0 [] H' g' ∧ ref01_In_l1 a0 a1 m2 v = some r) (n := n) 0 (.k (.k (.k .nil))) ⟨(hS.keep [] rfl).up (by omega), hM⟩ ?_
  rintro v1 m2 H g2 ⟨hS, hM⟩
  obtain _ | m2 := m2
  ·exact nomatch (show none = some _ from hM)
  change wpA _ _ _ _ (Fr.of [(0, .sl .no 1 (a0.map cI)), (1, .i a1), (5, .i v1)]) _ _
  replace hS : St (· < g) H0 [] H g2 := hS
  replace hM : ref01_In_l1_b a0 a1 (ref01_In_l1 a0 a1 m2) v1 = some r := hM
  refine r_seq ?_
  refine r_seq ?_
  refine r_region (n := 4) rfl ?_
  refine o_move (v := .i v1) (by decide) rfl ?_
  refine o_move (v := .sl .no 1 (a0.map cI)) (by decide) rfl ?_
  refine o_len (n := a0.length) (by decide) rfl (List.length_map _) ty_isl22 ?_
  refine o_int (v := .b (decide (v1 < (a0.length : Int)))) (by decide) rfl rfl rfl ?_
  refine run_nil ?_
  refine w_next [(0, .sl .no 1 (a0.map cI)), (1, .i a1), (5, .i v1), (9, .b (decide (v1 < (a0.length : Int))))] (.k (.k (.k (.k .nil)))) ?_
  rcases Bool.eq_false_or_eq_true (decide (v1 < (a0.length : Int))) with hb2 | hb2
  ·replace hM := ifT hM hb2
   refine w_condT (e := (decide (v1 < (a0.length : Int)))) rfl hb2 ?_
   refine r_skip ?_
   refine w_next [(0, .sl .no 1 (a0.map cI)), (1, .i a1), (5, .i v1)] (.k (.k (.k .nil))) ?_
   refine r_seq ?_
   refine r_block ?_
   refine r_seq ?_
   refine r_region (n := 6) rfl ?_
   refine o_move (v := .sl .no 1 (a0.map cI)) (by decide) rfl ?_
   refine o_move (v := .i v1) (by decide) rfl ?_
   obtain ⟨x3, hx3, hM⟩ := bindE hM
   refine o_index (xs := a0) (f := cI) (z := v1) (u := x3) (by decide) rfl rfl ty_es22 hx3 ?_
   refine o_loadE (v := .i x3) (by decide) rfl (part_one ty_agg3 ty_sc3 rfl) ?_
   refine o_move (v := .i a1) (by decide) rfl ?_
   refine o_int (v := .b (x3 == a1)) (by decide) rfl rfl rfl ?_
   refine run_nil ?_
   refine w_next [(0, .sl .no 1 (a0.map cI)), (1, .i a1), (5, .i v1), (17, .b (x3 == a1))] (.k (.k (.k (.k .nil)))) ?_
   rcases Bool.eq_false_or_eq_true (x3 == a1) with hb4 | hb4
   ·replace hM := ifT hM hb4
    refine w_condT (e := (x3 == a1)) rfl hb4 ?_
    refine r_seq ?_
    refine r_region (n := 1) rfl ?_
    refine o_assign (v := .b true) (by decide) rfl ?_
    refine run_nil ?_
    refine w_next [(4, .b true)] (.k .nil) ?_
    refine r_ret ?_
    refine r_blk_ret ?_
    refine r_then_ret ?_
    refine w_round_ret ?_
    refine r_blk_ret ?_
    refine w_goto_ret ?_
    refine w_end (x := .b true) (f := fun r => .b r) (.inr rfl) ?_ (.refl _) (Option.some.inj hM) hS
    exact (res_one (res_tmp (x := .b true) rfl))
   ·replace hM := ifF hM hb4
    refine w_condF (e := (x3 == a1)) rfl hb4 ?_
    refine r_skip ?_
    refine r_blk_normal ?_
    refine w_next [(0, .sl .no 1 (a0.map cI)), (1, .i a1), (5, .i v1)] (.k (.k (.k .nil))) ?_
    refine r_region (n := 3) rfl ?_
    refine o_move (v := .i v1) (by decide) rfl ?_
    refine o_int (v := .i (w64 (v1 + 1))) (by decide) rfl rfl rfl ?_
    refine o_assign (v := .i (w64 (v1 + 1))) (by decide) rfl ?_
    refine run_nil ?_
    exact w_round (w64 (v1 + 1)) (Nat.lt_succ_self _) (.k (.k (.k .nil))) ⟨(hS.keep [] rfl).up (by omega), hM⟩
  ·replace hM := ifF hM hb2
   refine w_condF (e := (decide (v1 < (a0.length : Int)))) rfl hb2 ?_
   refine r_exit ?_
   refine r_then_exit ?_
   refine w_round_exit ?_
   refine r_blk_exit ?_
   exact w_goto () .nil ⟨(hS.keep [] rfl).up (by omega), hM⟩
theorem W_ref01_Put {n : Nat} {a0 : Wheel} {a1 : Int} {a2 : Int} {r : Int × Int} (hM : ref01_Put n a0 a1 a2 = some r) : PureSat Try.prog 63 [.agg [.i a0.Round, .sl .no 1 (a0.Notches.map cI), .sl .no 1 (a0.Coins.map cI)], .i a1, .i a2] (.tup [.i r.1, .i r.2]) := by
 refine pure_of_wp mixed Try.func63 rfl (by decide) Try.ntmps63 (by simp) ?pure fun H0 g hf => ?_
 case pure => exact .tup _ (pl_cons (.v _) (pl_cons (.v _) pl_nil))
 rw [frame0_of]
 change wpA _ _ _ _ (Fr.of [(0, .agg [.i a0.Round, .sl .no 1 (a0.Notches.map cI), .sl .no 1 (a0.Coins.map cI)]), (1, .i a1), (2, .i a2)]) H0 g
 have hS := St.start hf
 refine r_seq ?_
 refine r_region (n := 3) rfl ?_
 refine o_box (v := .agg [.i a0.Round, .sl .no 1 (a0.Notches.map cI), .sl .no 1 (a0.Coins.map cI)]) (cs := [.i a0.Round, .sl .no 1 (a0.Notches.map cI), .sl .no 1 (a0.Coins.map cI)]) hS (by decide) rfl rfl (by omega) fun H hS => ?_
 refine o_assign (v := .i 0) (by decide) rfl ?_
 refine o_assign (v := .i 0) (by decide) rfl ?_
 refine run_nil ?_
 refine w_iceE (L' := []) 0 3 hS rfl rfl rfl fun H hS => ?_
 refine w_next [(1, .i a1), (2, .i a2), (3, .ep [.i a0.Round, .sl .no 1 (a0.Notches.map cI), .sl .no 1 (a0.Coins.map cI)]), (7, .i 0)] (.k (.k (.k (.k .nil)))) ?_
 refine w_join (J := Int × Int) (fun j => [(1, .i j.1), (7, .i j.2)]) (fun j H' g' => St (· < g) H0 [] H' g' ∧ ref01_Put_j1 j.1 j.2 = some r) ?_ ?_
 ·rintro ⟨v1, v2⟩ H g1 ⟨hS, hM⟩
  change wpA _ _ _ _ (Fr.of [(1, .i v1), (7, .i v2)]) _ _
  replace hS : St (· < g) H0 [] H g1 := hS
  replace hM : ref01_Put_j1 v1 v2 = some r := hM
  refine r_seq ?_
  refine r_region (n := 4) rfl ?_
  refine o_move (v := .i v1) (by decide) rfl ?_
  refine o_move (v := .i v2) (by decide) rfl ?_
  refine o_assign (v := .i v1) (by decide) rfl ?_
  refine o_assign (v := .i v2) (by decide) rfl ?_
  refine run_nil ?_
  refine w_next [(6, .i v1), (7, .i v2)] (.k (.k .nil)) ?_
  refine r_ret ?_
  refine w_end (x := .tup [.i v1, .i v2]) (f := fun r => .tup [.i r.1, .i r.2]) (.inr rfl) ?_ (.refl _) (Option.some.inj hM) hS
  exact (res_two (res_tmp (x := .i v1) rfl) (res_tmp (x := .i v2) rfl))
 ·refine r_seq ?_
  refine r_region (n := 1) rfl ?_
  refine o_assign (v := .i 0) (by decide) rfl ?_
  refine run_nil ?_
  refine w_next [(1, .i a1), (2, .i a2), (3, .ep [.i a0.Round, .sl .no 1 (a0.Notches.map cI), .sl .no 1 (a0.Coins.map cI)]), (7, .i 0), (8, .i 0)] (.k (.k (.k (.k (.k .nil))))) ?_
  refine r_block ?_
  refine w_loop (V := Int × Int × Int) (fun v => [(1, .i v.1), (2, .i a2), (3, .ep [.i a0.Round, .sl .no 1 (a0.Notches.map cI), .sl .no 1 (a0.Coins.map cI)]), (7, .i v.2.1), (8, .i v.2.2)]) (fun v m2 H' g' => St (· < g) H0 [] H' g' ∧ ref01_Put_l1 n a0 a2 m2 v.1 v.2.1 v.2.2 = some r) (n := n) (a1, 0, 0) (.k (.k (.k (.k (.k .nil))))) ⟨(hS.keep [] rfl).up (by omega), hM⟩ ?_
  rintro ⟨v3, v4, v5⟩ m2 H g2 ⟨hS, hM⟩
  obtain _ | m2 := m2
  ·exact nomatch (show none = some _ from hM)
  change wpA _ _ _ _ (Fr.of [(1, .i v3), (2, .i a2), (3, .ep [.i a0.Round, .sl .no 1 (a0.Notches.map cI), .sl .no 1 (a0.Coins.map cI)]), (7, .i v4), (8, .i v5)]) _ _
  replace hS : St (· < g) H0 [] H g2 := hS
  replace hM : ref01_Put_l1_b n a0 a2 (ref01_Put_l1 n a0 a2 m2) v3 v4 v5 = some r := hM
  refine r_seq ?_
  refine r_seq ?_
  refine r_region (n := 3) rfl ?_
  refine o_move (v := .i v5) (by decide) rfl ?_
  refine o_move (v := .i a2) (by decide) rfl ?_
  refine o_int (v := .b (decide (v5 < a2))) (by decide) rfl rfl rfl ?_
  refine run_nil ?_
  refine w_next [(1, .i v3), (2, .i a2), (3, .ep [.i a0.Round, .sl .no 1 (a0.Notches.map cI), .sl .no 1 (a0.Coins.map cI)]), (7, .i v4), (8, .i v5), (11, .b (decide (v5 < a2)))] (.k (.k (.k (.k (.k (.k .nil)))))) ?_
  rcases Bool.eq_false_or_eq_true (decide (v5 < a2)) with hb6 | hb6
  ·replace hM := ifT hM hb6
   refine w_condT (e := (decide (v5 < a2))) rfl hb6 ?_
   refine r_skip ?_
   refine w_next [(1, .i v3), (2, .i a2), (3, .ep [.i a0.Round, .sl .no 1 (a0.Notches.map cI), .sl .no 1 (a0.Coins.map cI)]), (7, .i v4), (8, .i v5)] (.k (.k (.k (.k (.k .nil))))) ?_
   refine w_join (J := Int × Int) (fun j => [(1, .i j.1), (2, .i a2), (3, .ep [.i a0.Round, .sl .no 1 (a0.Notches.map cI), .sl .no 1 (a0.Coins.map cI)]), (7, .i j.2), (8, .i v5)]) (fun j H' g' => St (· < g) H0 [] H' g' ∧ ref01_Put_j2 (ref01_Put_l1 n a0 a2 m2) v5 j.1 j.2 = some r) ?_ ?_
   ·rintro ⟨v7, v8⟩ H g3 ⟨hS, hM⟩
    change wpA _ _ _ _ (Fr.of [(1, .i v7), (2, .i a2), (3, .ep [.i a0.Round, .sl .no 1 (a0.Notches.map cI), .sl .no 1 (a0.Coins.map cI)]), (7, .i v8), (8, .i v5)]) _ _
    replace hS : St (· < g) H0 [] H g3 := hS
    replace hM : ref01_Put_j2 (ref01_Put_l1 n a0 a2 m2) v5 v7 v8 = some r := hM
    refine r_region (n := 3) rfl ?_
    refine o_move (v := .i v5) (by decide) rfl ?_
    refine o_int (v := .i (w64 (v5 + 1))) (by decide) rfl rfl rfl ?_
    refine o_assign (v := .i (w64 (v5 + 1))) (by decide) rfl ?_
    refine run_nil ?_
    exact w_round (v7, v8, w64 (v5 + 1)) (Nat.lt_succ_self _) (.k (.k (.k (.k (.k .nil))))) ⟨(hS.keep [] rfl).up (by omega), hM⟩
   ·refine r_block ?_
    refine r_seq ?_
    refine r_region (n := 3) rfl ?_
    refine o_move (v := .i v3) (by decide) rfl ?_
    refine o_int (v := .i (w64 (v3 + 1))) (by decide) rfl rfl rfl ?_
    refine o_assign (v := .i (w64 (v3 + 1))) (by decide) rfl ?_
    refine run_nil ?_
    refine w_next [(1, .i (w64 (v3 + 1))), (2, .i a2), (3, .ep [.i a0.Round, .sl .no 1 (a0.Notches.map cI), .sl .no 1 (a0.Coins.map cI)]), (7, .i v4), (8, .i v5)] (.k (.k (.k (.k (.k .nil))))) ?_
    refine w_join (J := Int) (fun j => [(1, .i (w64 (v3 + 1))), (2, .i a2), (3, .ep [.i a0.Round, .sl .no 1 (a0.Notches.map cI), .sl .no 1 (a0.Coins.map cI)]), (7, .i j), (8, .i v5)]) (fun j H' g' => St (· < g) H0 [] H' g' ∧ ref01_Put_j3 (ref01_Put_l1 n a0 a2 m2) a0 v3 v5 j = some r) ?_ ?_
    ·rintro v9 H g4 ⟨hS, hM⟩
     change wpA _ _ _ _ (Fr.of [(1, .i (w64 (v3 + 1))), (2, .i a2), (3, .ep [.i a0.Round, .sl .no 1 (a0.Notches.map cI), .sl .no 1 (a0.Coins.map cI)]), (7, .i v9), (8, .i v5)]) _ _
     replace hS : St (· < g) H0 [] H g4 := hS
     replace hM : ref01_Put_j3 (ref01_Put_l1 n a0 a2 m2) a0 v3 v5 v9 = some r := hM
     refine r_seq ?_
     refine r_region (n := 4) rfl ?_
     refine o_move (v := .i (w64 (v3 + 1))) (by decide) rfl ?_
     refine o_fieldE (cs := [.i a0.Round, .sl .no 1 (a0.Notches.map cI), .sl .no 1 (a0.Coins.map cI)]) (by decide) ty_fo24_0 rfl ?_
     refine o_loadE (v := .i a0.Round) (by decide) rfl (part_one ty_agg3 ty_sc3 rfl) ?_
     refine o_int (v := .b ((w64 (v3 + 1)) == a0.Round)) (by decide) rfl rfl rfl ?_
     refine run_nil ?_
     refine w_next [(1, .i (w64 (v3 + 1))), (2, .i a2), (3, .ep [.i a0.Round, .sl .no 1 (a0.Notches.map cI), .sl .no 1 (a0.Coins.map cI)]), (7, .i v9), (8, .i v5), (25, .b ((w64 (v3 + 1)) == a0.Round))] (.k (.k (.k (.k (.k (.k .nil)))))) ?_
     rcases Bool.eq_false_or_eq_true ((w64 (v3 + 1)) == a0.Round) with hb10 | hb10
     ·replace hM := ifT hM hb10
      refine w_condT (e := ((w64 (v3 + 1)) == a0.Round)) rfl hb10 ?_
      refine r_region (n := 1) rfl ?_
      refine o_assign (v := .i 0) (by decide) rfl ?_
      refine run_nil ?_
      refine r_blk_normal ?_
      exact w_goto (0, v9) (.k (.k (.k (.k (.k .nil))))) ⟨(hS.keep [] rfl).up (by omega), hM⟩
     ·replace hM := ifF hM hb10
      refine w_condF (e := ((w64 (v3 + 1)) == a0.Round)) rfl hb10 ?_
      refine r_skip ?_
      refine r_blk_normal ?_
      exact w_goto (w64 (v3 + 1), v9) (.k (.k (.k (.k (.k .nil))))) ⟨(hS.keep [] rfl).up (by omega), hM⟩
    ·refine r_seq ?_
     refine r_region (n := 4) rfl ?_
     refine o_fieldE (cs := [.i a0.Round, .sl .no 1 (a0.Notches.map cI), .sl .no 1 (a0.Coins.map cI)]) (by decide) ty_fo24_1 rfl ?_
     refine o_loadE (v := .sl .no 1 (a0.Notches.map cI)) (by decide) rfl (part_one ty_agg22 ty_sc22 rfl) ?_
     refine o_move (v := .i (w64 (v3 + 1))) (by decide) rfl ?_
     obtain ⟨r11, hr11, hM⟩ := bindE hM
     refine o_call (bs := [.sl .no 1 (a0.Notches.map cI), .i (w64 (v3 + 1))]) (by decide) rfl rfl ((W_ref01_In hr11).le (.k (.k .nil))) ?_
     refine run_nil ?_
     refine w_next [(1, .i (w64 (v3 + 1))), (2, .i a2), (3, .ep [.i a0.Round, .sl .no 1 (a0.Notches.map cI), .sl .no 1 (a0.Coins.map cI)]), (7, .i v4), (8, .i v5), (19, .b r11)] (.k (.k (.k (.k (.k (.k .nil)))))) ?_
     rcases Bool.eq_false_or_eq_true r11 with hb12 | hb12
     ·replace hM := ifT hM hb12
      refine w_condT (e := r11) rfl hb12 ?_
      refine r_region (n := 3) rfl ?_
      refine o_move (v := .i v4) (by decide) rfl ?_
      refine o_int (v := .i (w64 (v4 + 1))) (by decide) rfl rfl rfl ?_
      refine o_assign (v := .i (w64 (v4 + 1))) (by decide) rfl ?_
      refine run_nil ?_
      exact w_goto (w64 (v4 + 1)) (.k (.k (.k (.k (.k .nil))))) ⟨(hS.keep [] rfl).up (by omega), hM⟩
     ·replace hM := ifF hM hb12
      refine w_condF (e := r11) rfl hb12 ?_
      refine r_skip ?_
      exact w_goto v4 (.k (.k (.k (.k (.k .nil))))) ⟨(hS.keep [] rfl).up (by omega), hM⟩
  ·replace hM := ifF hM hb6
   refine w_condF (e := (decide (v5 < a2))) rfl hb6 ?_
   refine r_exit ?_
   refine r_then_exit ?_
   refine w_round_exit ?_
   refine r_blk_exit ?_
   exact w_goto (v3, v4) (.k (.k .nil)) ⟨(hS.keep [] rfl).up (by omega), hM⟩
theorem W_law01_isWheel {n : Nat} {a0 : Wheel} {r : Bool} (hM : law01_isWheel n a0 = some r) : PureSat Try.prog 22 [.agg [.i a0.Round, .sl .no 1 (a0.Notches.map cI), .sl .no 1 (a0.Coins.map cI)]] (.b r) := by
 refine pure_of_wp mixed Try.func22 rfl (by decide) Try.ntmps22 (by simp) ?pure fun H0 g hf => ?_
 case pure => exact .v _
 rw [frame0_of]
 change wpA _ _ _ _ (Fr.of [(0, .agg [.i a0.Round, .sl .no 1 (a0.Notches.map cI), .sl .no 1 (a0.Coins.map cI)])]) H0 g
 have hS := St.start hf
 refine r_seq ?_
 refine r_region (n := 2) rfl ?_
 refine o_box (v := .agg [.i a0.Round, .sl .no 1 (a0.Notches.map cI), .sl .no 1 (a0.Coins.map cI)]) (cs := [.i a0.Round, .sl .no 1 (a0.Notches.map cI), .sl .no 1 (a0.Coins.map cI)]) hS (by decide) rfl rfl (by omega) fun H hS => ?_
 refine o_assign (v := .b false) (by decide) rfl ?_
 refine run_nil ?_
 refine w_iceE (L' := []) 0 1 hS rfl rfl rfl fun H hS => ?_
 refine w_next [(1, .ep [.i a0.Round, .sl .no 1 (a0.Notches.map cI), .sl .no 1 (a0.Coins.map cI)])] (.k .nil) ?_
 refine w_join (J := Bool) (fun j => [(2, .b j)]) (fun j H' g' => St (· < g) H0 [] H' g' ∧ law01_isWheel_j1 j = some r) ?_ ?_
 ·rintro v1 H g1 ⟨hS, hM⟩
  change wpA _ _ _ _ (Fr.of [(2, .b v1)]) _ _
  replace hS : St (· < g) H0 [] H g1 := hS
  replace hM : law01_isWheel_j1 v1 = some r := hM
  refine r_ret ?_
  refine w_end (x := .b v1) (f := fun r => .b r) (.inr rfl) ?_ (.refl _) (Option.some.inj hM) hS
  exact (res_one (res_tmp (x := .b v1) rfl))
 ·refine r_region (n := 9) rfl ?_
  refine o_loadE (v := .agg [.i a0.Round, .sl .no 1 (a0.Notches.map cI), .sl .no 1 (a0.Coins.map cI)]) (by decide) rfl (part_agg ty_agg24 (Nat.le_of_ble_eq_true rfl) rfl) ?_
  obtain ⟨r2, hr2, hM⟩ := bindE hM
  refine o_call (bs := [.agg [.i a0.Round, .sl .no 1 (a0.Notches.map cI), .sl .no 1 (a0.Coins.map cI)]]) (by decide) rfl rfl ((W_law01_far hr2).le (.k .nil)) ?_
  refine o_not (e := r2) (by decide) rfl ?_
  refine o_move (v := .b (!r2)) (by decide) rfl ?_
  rcases Bool.eq_false_or_eq_true (!r2) with hb3 | hb3
  ·replace hM := ifT hM hb3
   refine o_guardY (j := 3) (e := (!r2)) (want := true) rfl hb3 ?_
   refine o_loadE (v := .agg [.i a0.Round, .sl .no 1 (a0.Notches.map cI), .sl .no 1 (a0.Coins.map cI)]) (by decide) rfl (part_agg ty_agg24 (Nat.le_of_ble_eq_true rfl) rfl) ?_
   refine o_guardY (j := 3) (e := (!r2)) (want := true) rfl hb3 ?_
   obtain ⟨r4, hr4, hM⟩ := bindE hM
   refine o_call (bs := [.agg [.i a0.Round, .sl .no 1 (a0.Notches.map cI), .sl .no 1 (a0.Coins.map cI)]]) (by decide) rfl rfl ((W_ref01_Check hr4).le (.k .nil)) ?_
   refine o_guardY (j := 3) (e := (!r2)) (want := true) rfl hb3 ?_
   refine o_int (v := .b (r4 == 0)) (by decide) rfl rfl rfl ?_
   refine o_pickT (v := .b (r4 == 0)) (e := (!r2)) (by decide) rfl hb3 rfl ?_
   refine o_assign (v := .b (r4 == 0)) (by decide) rfl ?_
   refine run_nil ?_
   exact w_goto (r4 == 0) (.k .nil) ⟨(hS.keep [] rfl).up (by omega), hM⟩
  ·replace hM := ifF hM hb3
   refine o_guardN (j := 3) (e := (!r2)) (want := true) (by decide) rfl hb3 ?_
   refine o_guardN (j := 3) (e := (!r2)) (want := true) (by decide) rfl hb3 ?_
   refine o_guardN (j := 3) (e := (!r2)) (want := true) (by decide) rfl hb3 ?_
   refine o_pickF (v := .b false) (e := (!r2)) (by decide) rfl hb3 rfl ?_
   refine o_assign (v := .b false) (by decide) rfl ?_
   refine run_nil ?_
   exact w_goto false (.k .nil) ⟨(hS.keep [] rfl).up (by omega), hM⟩
theorem W_coins_Could {n : Nat} {a0 : Wheel} {a1 : List Seen} {r : (List Int) × Int} (hM : coins_Could n a0 a1 = some r) : PureSat Try.prog 30 [.agg [.i a0.Round, .sl .no 1 (a0.Notches.map cI), .sl .no 1 (a0.Coins.map cI)], .sl .no 2 (a1.map Seen.cells)] (.tup [.sl .no 1 (r.1.map cI), .i r.2]) := by
 refine pure_of_wp mixed Try.func30 rfl (by decide) Try.ntmps30 (by simp) ?pure fun H0 g hf => ?_
 case pure => exact .tup _ (pl_cons (.sl _ _ (pures_map (fun x => (pl_cons (.v _) pl_nil)))) (pl_cons (.v _) pl_nil))
 rw [frame0_of]
 change wpA _ _ _ _ (Fr.of [(0, .agg [.i a0.Round, .sl .no 1 (a0.Notches.map cI), .sl .no 1 (a0.Coins.map cI)]), (1, .sl .no 2 (a1.map Seen.cells))]) H0 g
 have hS := St.start hf
 refine r_seq ?_
 refine r_region (n := 3) rfl ?_
 refine o_box (v := .agg [.i a0.Round, .sl .no 1 (a0.Notches.map cI), .sl .no 1 (a0.Coins.map cI)]) (cs := [.i a0.Round, .sl .no 1 (a0.Notches.map cI), .sl .no 1 (a0.Coins.map cI)]) hS (by decide) rfl rfl (by omega) fun H hS => ?_
 refine o_assign (v := .sl .nil 0 []) (by decide) rfl ?_
 refine o_assign (v := .i 0) (by decide) rfl ?_
 refine run_nil ?_
 refine w_iceE (L' := []) 0 2 hS rfl rfl rfl fun H hS => ?_
 refine w_next [(1, .sl .no 2 (a1.map Seen.cells)), (2, .ep [.i a0.Round, .sl .no 1 (a0.Notches.map cI), .sl .no 1 (a0.Coins.map cI)])] (.k (.k .nil)) ?_
 refine r_seq ?_
 refine r_region (n := 8) rfl ?_
 refine o_loadE (v := .agg [.i a0.Round, .sl .no 1 (a0.Notches.map cI), .sl .no 1 (a0.Coins.map cI)]) (by decide) rfl (part_agg ty_agg24 (Nat.le_of_ble_eq_true rfl) rfl) ?_
 refine o_move (v := .sl .no 2 (a1.map Seen.cells)) (by decide) rfl ?_
 obtain ⟨r1, hr1, hM⟩ := bindE hM
 refine o_call (bs := [.agg [.i a0.Round, .sl .no 1 (a0.Notches.map cI), .sl .no 1 (a0.Coins.map cI)], .sl .no 2 (a1.map Seen.cells)]) (by decide) rfl rfl ((W_coins_stood hr1).le (.k (.k .nil))) ?_
 refine o_move (v := .tup [fA (fun x => .fn (.func 102) [] [.ep [.i x.1.Wheel.Round, .sl .no 1 (x.1.Wheel.Notches.map cI), .sl .no 1 (x.1.Wheel.Coins.map cI)], .ep [.sl .no 2 (x.2.map Seen.cells)]]) r1.1, .i r1.2]) (by decide) rfl ?_
 refine o_extract (v := fA (fun x => .fn (.func 102) [] [.ep [.i x.1.Wheel.Round, .sl .no 1 (x.1.Wheel.Notches.map cI), .sl .no 1 (x.1.Wheel.Coins.map cI)], .ep [.sl .no 2 (x.2.map Seen.cells)]]) r1.1) (by decide) rfl rfl ?_
 refine o_extract (v := .i r1.2) (by decide) rfl rfl ?_
 refine o_assign (v := fA (fun x => .fn (.func 102) [] [.ep [.i x.1.Wheel.Round, .sl .no 1 (x.1.Wheel.Notches.map cI), .sl .no 1 (x.1.Wheel.Coins.map cI)], .ep [.sl .no 2 (x.2.map Seen.cells)]]) r1.1) (by decide) rfl ?_
 refine o_assign (v := .i r1.2) (by decide) rfl ?_
 refine run_nil ?_
 refine w_next [(6, fA (fun x => .fn (.func 102) [] [.ep [.i x.1.Wheel.Round, .sl .no 1 (x.1.Wheel.Notches.map cI), .sl .no 1 (x.1.Wheel.Coins.map cI)], .ep [.sl .no 2 (x.2.map Seen.cells)]]) r1.1), (7, .i r1.2)] (.k (.k .nil)) ?_
 refine r_seq ?_
 refine r_seq ?_
 refine r_region (n := 2) rfl ?_
 refine o_move (v := .i r1.2) (by decide) rfl ?_
 refine o_int (v := .b (r1.2 != 0)) (by decide) rfl rfl rfl ?_
 refine run_nil ?_
 refine w_next [(6, fA (fun x => .fn (.func 102) [] [.ep [.i x.1.Wheel.Round, .sl .no 1 (x.1.Wheel.Notches.map cI), .sl .no 1 (x.1.Wheel.Coins.map cI)], .ep [.sl .no 2 (x.2.map Seen.cells)]]) r1.1), (7, .i r1.2), (17, .b (r1.2 != 0))] (.k (.k (.k .nil))) ?_
 rcases Bool.eq_false_or_eq_true (r1.2 != 0) with hb2 | hb2
 ·replace hM := ifT hM hb2
  refine w_condT (e := (r1.2 != 0)) rfl hb2 ?_
  refine r_seq ?_
  refine r_region (n := 3) rfl ?_
  refine o_move (v := .i r1.2) (by decide) rfl ?_
  refine o_assign (v := .sl .nil 0 []) (by decide) rfl ?_
  refine o_assign (v := .i r1.2) (by decide) rfl ?_
  refine run_nil ?_
  refine w_next [(4, .sl .nil 0 []), (5, .i r1.2)] (.k (.k .nil)) ?_
  refine r_ret ?_
  refine r_then_ret ?_
  refine w_end (x := .tup [.sl .nil 0 [], .i r1.2]) (f := fun r => .tup [.sl .no 1 (r.1.map cI), .i r.2]) (.inr rfl) ?_ (.tupL (.cons (.sl0 .nil 1 0) (.k .nil))) (Option.some.inj hM) hS
  exact (res_two (res_tmp (x := .sl .nil 0 []) rfl) (res_tmp (x := .i r1.2) rfl))
 ·replace hM := ifF hM hb2
  refine w_condF (e := (r1.2 != 0)) rfl hb2 ?_
  refine r_skip ?_
  refine w_next [(6, fA (fun x => .fn (.func 102) [] [.ep [.i x.1.Wheel.Round, .sl .no 1 (x.1.Wheel.Notches.map cI), .sl .no 1 (x.1.Wheel.Coins.map cI)], .ep [.sl .no 2 (x.2.map Seen.cells)]]) r1.1)] (.k .nil) ?_
  refine r_seq ?_
  refine r_region (n := 1) rfl ?_
  refine o_alloc hS (by decide) ty_zero22 (by omega) fun H hS => ?_
  refine run_nil ?_
  refine w_ownC (cs' := [.sl (.id (g + 3 + 8 + 2 + 1)) 1 (([] : List Int).map cI)]) (L' := [(g + 3 + 8 + 2 + 0, .cells [.sl (.id (g + 3 + 8 + 2 + 1)) 1 (([] : List Int).map cI)])]) 0 0 1 3 hS (by omega) (by decide) rfl rfl rfl rfl fun H hS => ?_
  refine w_next [(6, fA (fun x => .fn (.func 102) [] [.ep [.i x.1.Wheel.Round, .sl .no 1 (x.1.Wheel.Notches.map cI), .sl .no 1 (x.1.Wheel.Coins.map cI)], .ep [.sl .no 2 (x.2.map Seen.cells)]]) r1.1), (8, .ptr (g + 3 + 8 + 2 + 0) 0)] (.k (.k .nil)) ?_
  refine r_seq ?_
  refine r_seq ?_
  refine r_region (n := 1) rfl ?_
  refine o_move (v := fA (fun x => .fn (.func 102) [] [.ep [.i x.1.Wheel.Round, .sl .no 1 (x.1.Wheel.Notches.map cI), .sl .no 1 (x.1.Wheel.Coins.map cI)], .ep [.sl .no 2 (x.2.map Seen.cells)]]) r1.1) (by decide) rfl ?_
  refine run_nil ?_
  refine w_next [(8, .ptr (g + 3 + 8 + 2 + 0) 0), (19, fA (fun x => .fn (.func 102) [] [.ep [.i x.1.Wheel.Round, .sl .no 1 (x.1.Wheel.Notches.map cI), .sl .no 1 (x.1.Wheel.Coins.map cI)], .ep [.sl .no 2 (x.2.map Seen.cells)]]) r1.1)] (.k (.k .nil)) ?_
  refine r_block ?_
  obtain ⟨x3, hx3, hM⟩ := bindE hM
  rw [fA_some hx3]
  change wpA _ _ _ _ (Fr.of [(8, .ptr (g + 3 + 8 + 2 + 0) 0), (19, .fn (.func 102) [] [.ep [.i x3.1.Wheel.Round, .sl .no 1 (x3.1.Wheel.Notches.map cI), .sl .no 1 (x3.1.Wheel.Coins.map cI)], .ep [.sl .no 2 (x3.2.map Seen.cells)]])]) _ _
  obtain ⟨r6, hr6, hM⟩ := bindE hM
  refine w_range0D (Lo := fun s : (List Int) => [(g + 3 + 8 + 2 + 1, .row 3 s.length), (g + 3 + 8 + 2 + 0, .cells [.sl (.id (g + 3 + 8 + 2 + 1)) 1 (s.map cI)])]) (R := fun x x2 s b s' => ∃ y yy, x = .i y ∧ x2 = .i yy ∧ coins_Could_r1 y yy s = some (b, s')) (s0 := ([] : List Int)) (sF := r6.2) (A := []) (A' := []) (L' := [(g + 3 + 8 + 2 + 1, .row 3 r6.2.length), (g + 3 + 8 + 2 + 0, .cells [.sl (.id (g + 3 + 8 + 2 + 1)) 1 (r6.2.map cI)])]) [(8, .ptr (g + 3 + 8 + 2 + 0) 0)] [0, 1] hS (by omega) rfl rfl rfl (.cons rfl (.cons rfl .nil)) (by decide) rfl kl_nil (fun _ _ => (kl_row (kl_cells kl_nil))) (fun s => (inb_st (ic_row (ic_cells (ci_cons (.inl (.inr ⟨_, _, _, _, _, rfl, List.mem_of_getElem? (i := 0) rfl, pures_map (fun x => (pl_cons (.v _) pl_nil))⟩)) ci_nil) ic_nil)) inb_nil)) (fun s H hH => (ai_cons (in_ptr hH 1 rfl) ai_nil)) (.k .nil) rfl (by decide) (by decide) rfl rfl ?_ (fun F Lx hk1 hnd1 hin1 hF1 h01 hf1 => W_coins_stood_c2 (Lo := Lx)  hk1 hnd1 hin1 (aF := coins_Could_r1) hF1 h01 (fun h => hf1 _ _ _ _ _ ⟨_, _, rfl, rfl, h⟩) hr6) fun H hS => ?_
  ·rintro x x2 v4 b s' ⟨y1, yy1, rfl, rfl, hM⟩
   refine ⟨rfl, fun H' g1 hf' hh' => ?_⟩
   have hS := St.start hf'
   change wpA _ _ _ _ (Fr.of [(21, .i yy1), (20, .i y1), (8, .ptr (g + 3 + 8 + 2 + 0) 0)]) _ _
   refine r_region (n := 1) rfl ?_
   refine o_assign (v := .i y1) (by decide) rfl ?_
   refine run_nil ?_
   refine w_rasg (l3 := [(8, .ptr (g + 3 + 8 + 2 + 0) 0), (9, .i y1)]) (.k (.k .nil)) hS (by omega) fun Hb H hS => ?_
   replace hS : St (fun i => i < g1 ∧ i ∉ ids [(g + 3 + 8 + 2 + 1, .row 3 v4.length), (g + 3 + 8 + 2 + 0, .cells [.sl (.id (g + 3 + 8 + 2 + 1)) 1 (v4.map cI)])]) Hb [(g + 3 + 8 + 2 + 1, .row 3 v4.length), (g + 3 + 8 + 2 + 0, .cells [.sl (.id (g + 3 + 8 + 2 + 1)) 1 (v4.map cI)])] H _ := hS
   refine r_block ?_
   refine r_region (n := 5) rfl ?_
   refine o_load (v := .sl (.id (g + 3 + 8 + 2 + 1)) 1 (v4.map cI)) 1 hS (by decide) rfl rfl .no (part_one ty_agg22 ty_sc22 rfl) ?_
   refine o_move (v := .i y1) (by decide) rfl ?_
   refine o_buildSlice (es := [[.i y1]]) hS (by decide) ty_es22 ty_el22 rfl ty_ef22 rfl (by decide) (by omega) fun H hS => ?_
   obtain ⟨l5, hl5, hM⟩ := bindE hM
   refine o_append (xs := v4) (ys := ([y1] : List Int)) (zs := l5) (f := cI) (L' := [(g1 + 1 + 2, .row 3 1), (g + 3 + 8 + 2 + 1, .row 3 l5.length), (g + 3 + 8 + 2 + 0, .cells [.sl (.id (g + 3 + 8 + 2 + 1)) 1 (v4.map cI)])]) 1 hS (by decide) rfl rfl rfl rfl .no ty_es22 ty_el22 ty_ef22 hl5 rfl fun H hS => ?_
   refine o_store (v := .sl (.id (g + 3 + 8 + 2 + 1)) 1 (l5.map cI)) (ns := [.sl (.id (g + 3 + 8 + 2 + 1)) 1 (l5.map cI)]) (L' := [(g1 + 1 + 2, .row 3 1), (g + 3 + 8 + 2 + 1, .row 3 l5.length), (g + 3 + 8 + 2 + 0, .cells [.sl (.id (g + 3 + 8 + 2 + 1)) 1 (l5.map cI)])]) 2 hS rfl rfl .no rfl rfl ty_var22 (Nat.le_of_ble_eq_true rfl) rfl fun H hS => ?_
   refine run_nil ?_
   refine r_blk_normal ?_
   injection hM with hM
   injection hM with hm1 hm2
   subst hm1 hm2
   exact w_rend (hS.keep [false, true, true] rfl)
  refine r_blk_normal ?_
  refine w_next [(8, .ptr (g + 3 + 8 + 2 + 0) 0)] (.k .nil) ?_
  refine r_seq ?_
  refine r_region (n := 3) rfl ?_
  refine o_load (v := .sl (.id (g + 3 + 8 + 2 + 1)) 1 (r6.2.map cI)) 1 hS (by decide) rfl rfl .no (part_one ty_agg22 ty_sc22 rfl) ?_
  refine o_assign (v := .sl (.id (g + 3 + 8 + 2 + 1)) 1 (r6.2.map cI)) (by decide) rfl ?_
  refine o_assign (v := .i 0) (by decide) rfl ?_
  refine run_nil ?_
  replace hS := hS.keep (L' := [(g + 3 + 8 + 2 + 1, .row 3 r6.2.length)]) [true, false] rfl
  refine w_next [(4, .sl (.id (g + 3 + 8 + 2 + 1)) 1 (r6.2.map cI)), (5, .i 0)] (.k (.k .nil)) ?_
  refine r_ret ?_
  refine w_end (x := .tup [.sl (.id (g + 3 + 8 + 2 + 1)) 1 (r6.2.map cI), .i 0]) (f := fun r => .tup [.sl .no 1 (r.1.map cI), .i r.2]) (.inr rfl) ?_ (.tupL (.cons (.sl _ _ _) (.k .nil))) (Option.some.inj hM) hS
  exact (res_two (res_tmp (x := .sl (.id (g + 3 + 8 + 2 + 1)) 1 (r6.2.map cI)) rfl) (res_tmp (x := .i 0) rfl))
theorem W_ref01_IsPlace {a0 : Wheel} {a1 : Int} {r : Bool} (hM : ref01_IsPlace a0 a1 = some r) : PureSat Try.prog 35 [.agg [.i a0.Round, .sl .no 1 (a0.Notches.map cI), .sl .no 1 (a0.Coins.map cI)], .i a1] (.b r) := by
 refine pure_of_wp mixed Try.func35 rfl (by decide) Try.ntmps35 (by simp) ?pure fun H0 g hf => ?_
 case pure => exact .v _
 rw [frame0_of]
 change wpA _ _ _ _ (Fr.of [(0, .agg [.i a0.Round, .sl .no 1 (a0.Notches.map cI), .sl .no 1 (a0.Coins.map cI)]), (1, .i a1)]) H0 g
 have hS := St.start hf
 refine r_seq ?_
 refine r_region (n := 2) rfl ?_
 refine o_box (v := .agg [.i a0.Round, .sl .no 1 (a0.Notches.map cI), .sl .no 1 (a0.Coins.map cI)]) (cs := [.i a0.Round, .sl .no 1 (a0.Notches.map cI), .sl .no 1 (a0.Coins.map cI)]) hS (by decide) rfl rfl (by omega) fun H hS => ?_
 refine o_assign (v := .b false) (by decide) rfl ?_
 refine run_nil ?_
 refine w_iceE (L' := []) 0 2 hS rfl rfl rfl fun H hS => ?_
 refine w_next [(1, .i a1), (2, .ep [.i a0.Round, .sl .no 1 (a0.Notches.map cI), .sl .no 1 (a0.Coins.map cI)])] (.k (.k .nil)) ?_
 refine r_seq ?_
 refine r_region (n := 6) rfl ?_
 refine o_move (v := .i a1) (by decide) rfl ?_
 refine o_fieldE (cs := [.i a0.Round, .sl .no 1 (a0.Notches.map cI), .sl .no 1 (a0.Coins.map cI)]) (by decide) ty_fo24_0 rfl ?_
 refine o_loadE (v := .i a0.Round) (by decide) rfl (part_one ty_agg3 ty_sc3 rfl) ?_
 refine o_int (v := .i (w64 (a0.Round - 1))) (by decide) rfl rfl rfl ?_
 obtain ⟨r1, hr1, hM⟩ := bindE hM
 refine o_call (bs := [.i a1, .i 0, .i (w64 (a0.Round - 1))]) (by decide) rfl rfl ((W_ref01_Within hr1).le (.k (.k (.k .nil)))) ?_
 refine o_assign (v := .b r1) (by decide) rfl ?_
 refine run_nil ?_
 refine w_next [(4, .b r1)] (.k .nil) ?_
 refine r_ret ?_
 refine w_end (x := .b r1) (f := fun r => .b r) (.inr rfl) ?_ (.refl _) (Option.some.inj hM) hS
 exact (res_one (res_tmp (x := .b r1) rfl))
theorem W_ref01_AreKinds {n : Nat} {a0 : Wheel} {a1 : List Int} {a2 : Int} {r : Bool} (hM : ref01_AreKinds n a0 a1 a2 = some r) : PureSat Try.prog 36 [.agg [.i a0.Round, .sl .no 1 (a0.Notches.map cI), .sl .no 1 (a0.Coins.map cI)], .sl .no 1 (a1.map cI), .i a2] (.b r) := by
 refine pure_of_wp mixed Try.func36 rfl (by decide) Try.ntmps36 (by simp) ?pure fun H0 g hf => ?_
 case pure => exact .v _
 rw [frame0_of]
 change wpA _ _ _ _ (Fr.of [(0, .agg [.i a0.Round, .sl .no 1 (a0.Notches.map cI), .sl .no 1 (a0.Coins.map cI)]), (1, .sl .no 1 (a1.map cI)), (2, .i a2)]) H0 g
 have hS := St.start hf
 refine r_seq ?_
 refine r_region (n := 2) rfl ?_
 refine o_box (v := .agg [.i a0.Round, .sl .no 1 (a0.Notches.map cI), .sl .no 1 (a0.Coins.map cI)]) (cs := [.i a0.Round, .sl .no 1 (a0.Notches.map cI), .sl .no 1 (a0.Coins.map cI)]) hS (by decide) rfl rfl (by omega) fun H hS => ?_
 refine o_assign (v := .b false) (by decide) rfl ?_
 refine run_nil ?_
 refine w_iceE (L' := []) 0 3 hS rfl rfl rfl fun H hS => ?_
 refine w_next [(1, .sl .no 1 (a1.map cI)), (2, .i a2), (3, .ep [.i a0.Round, .sl .no 1 (a0.Notches.map cI), .sl .no 1 (a0.Coins.map cI)])] (.k (.k (.k .nil))) ?_
 refine w_join (J := Unit) (fun j => [(1, .sl .no 1 (a1.map cI))]) (fun j H' g' => St (· < g) H0 [] H' g' ∧ ref01_AreKinds_j1 a1 = some r) ?_ ?_
 ·rintro _ H g1 ⟨hS, hM⟩
  change wpA _ _ _ _ (Fr.of [(1, .sl .no 1 (a1.map cI))]) _ _
  replace hS : St (· < g) H0 [] H g1 := hS
  replace hM : ref01_AreKinds_j1 a1 = some r := hM
  refine r_seq ?_
  refine r_region (n := 4) rfl ?_
  refine o_move (v := .sl .no 1 (a1.map cI)) (by decide) rfl ?_
  refine o_len (n := a1.length) (by decide) rfl (List.length_map _) ty_isl22 ?_
  refine o_int (v := .b (decide ((a1.length : Int) ≤ 20))) (by decide) rfl rfl rfl ?_
  refine o_assign (v := .b (decide ((a1.length : Int) ≤ 20))) (by decide) rfl ?_
  refine run_nil ?_
  refine w_next [(6, .b (decide ((a1.length : Int) ≤ 20)))] (.k .nil) ?_
  refine r_ret ?_
  refine w_end (x := .b (decide ((a1.length : Int) ≤ 20))) (f := fun r => .b r) (.inr rfl) ?_ (.refl _) (Option.some.inj hM) hS
  exact (res_one (res_tmp (x := .b (decide ((a1.length : Int) ≤ 20))) rfl))
 ·refine r_seq ?_
  refine r_region (n := 1) rfl ?_
  refine o_assign (v := .i 0) (by decide) rfl ?_
  refine run_nil ?_
  refine w_next [(1, .sl .no 1 (a1.map cI)), (2, .i a2), (3, .ep [.i a0.Round, .sl .no 1 (a0.Notches.map cI), .sl .no 1 (a0.Coins.map cI)]), (7, .i 0)] (.k (.k (.k (.k .nil)))) ?_
  refine r_block ?_
  refine w_loop (V := Int) (fun v => [(1, .sl .no 1 (a1.map cI)), (2, .i a2), (3, .ep [.i a0.Round, .sl .no 1 (a0.Notches.map cI), .sl .no 1 (a0.Coins.map cI)]), (7, .i v)]) (fun v m2 H' g' => St (· < g) H0 [] H' g' ∧ ref01_AreKinds_l1 a0 a1 a2 m2 v = some r) (n := n) 0 (.k (.k (.k (.k .nil)))) ⟨(hS.keep [] rfl).up (by omega), hM⟩ ?_
  rintro v1 m2 H g2 ⟨hS, hM⟩
  obtain _ | m2 := m2
  ·exact nomatch (show none = some _ from hM)
  change wpA _ _ _ _ (Fr.of [(1, .sl .no 1 (a1.map cI)), (2, .i a2), (3, .ep [.i a0.Round, .sl .no 1 (a0.Notches.map cI), .sl .no 1 (a0.Coins.map cI)]), (7, .i v1)]) _ _
  replace hS : St (· < g) H0 [] H g2 := hS
  replace hM : ref01_AreKinds_l1_b a0 a1 a2 (ref01_AreKinds_l1 a0 a1 a2 m2) v1 = some r := hM
  refine r_seq ?_
  refine r_seq ?_
  refine r_region (n := 4) rfl ?_
  refine o_move (v := .i v1) (by decide) rfl ?_
  refine o_move (v := .sl .no 1 (a1.map cI)) (by decide) rfl ?_
  refine o_len (n := a1.length) (by decide) rfl (List.length_map _) ty_isl22 ?_
  refine o_int (v := .b (decide (v1 < (a1.length : Int)))) (by decide) rfl rfl rfl ?_
  refine run_nil ?_
  refine w_next [(1, .sl .no 1 (a1.map cI)), (2, .i a2), (3, .ep [.i a0.Round, .sl .no 1 (a0.Notches.map cI), .sl .no 1 (a0.Coins.map cI)]), (7, .i v1), (11, .b (decide (v1 < (a1.length : Int))))] (.k (.k (.k (.k (.k .nil))))) ?_
  rcases Bool.eq_false_or_eq_true (decide (v1 < (a1.length : Int))) with hb2 | hb2
  ·replace hM := ifT hM hb2
   refine w_condT (e := (decide (v1 < (a1.length : Int)))) rfl hb2 ?_
   refine r_skip ?_
   refine w_next [(1, .sl .no 1 (a1.map cI)), (2, .i a2), (3, .ep [.i a0.Round, .sl .no 1 (a0.Notches.map cI), .sl .no 1 (a0.Coins.map cI)]), (7, .i v1)] (.k (.k (.k (.k .nil)))) ?_
   refine r_seq ?_
   refine r_block ?_
   refine r_seq ?_
   have hS0 := hS
   refine r_draw (n := 11) rfl (by kernel_rfl) ?_
   refine o_move (v := .sl .no 1 (a1.map cI)) (by decide) rfl ?_
   refine o_move (v := .i v1) (by decide) rfl ?_
   obtain ⟨x3, hx3, hM⟩ := bindE hM
   refine o_index (xs := a1) (f := cI) (z := v1) (u := x3) (by decide) rfl rfl ty_es22 hx3 ?_
   refine o_loadE (v := .i x3) (by decide) rfl (part_one ty_agg3 ty_sc3 rfl) ?_
   refine o_move (v := .i a2) (by decide) rfl ?_
   refine o_fieldE (cs := [.i a0.Round, .sl .no 1 (a0.Notches.map cI), .sl .no 1 (a0.Coins.map cI)]) (by decide) ty_fo24_2 rfl ?_
   refine o_loadE (v := .sl .no 1 (a0.Coins.map cI)) (by decide) rfl (part_one ty_agg22 ty_sc22 rfl) ?_
   refine o_len (n := a0.Coins.length) (by decide) rfl (List.length_map _) ty_isl22 ?_
   refine o_int (v := .i (w64 ((a0.Coins.length : Int) - 1))) (by decide) rfl rfl rfl ?_
   obtain ⟨r4, hr4, hM⟩ := bindE hM
   refine o_call (bs := [.i x3, .i a2, .i (w64 ((a0.Coins.length : Int) - 1))]) (by decide) rfl rfl ((W_ref01_Within hr4).le (.k (.k (.k .nil)))) ?_
   refine o_not (e := r4) (by decide) rfl ?_
   refine run_nil ?_
   refine w_next [(1, .sl .no 1 (a1.map cI)), (2, .i a2), (3, .ep [.i a0.Round, .sl .no 1 (a0.Notches.map cI), .sl .no 1 (a0.Coins.map cI)]), (7, .i v1), (24, .b (!r4))] (.k (.k (.k (.k (.k .nil))))) ?_
   rcases Bool.eq_false_or_eq_true (!r4) with hb5 | hb5
   ·replace hM := ifT hM hb5
    refine w_condT (e := (!r4)) rfl hb5 ?_
    refine r_seq ?_
    refine r_region (n := 1) rfl ?_
    refine o_assign (v := .b false) (by decide) rfl ?_
    refine run_nil ?_
    refine w_next [(6, .b false)] (.k .nil) ?_
    refine r_ret ?_
    refine r_blk_ret ?_
    refine r_then_ret ?_
    refine w_round_ret ?_
    refine r_blk_ret ?_
    refine w_goto_ret ?_
    refine w_end (x := .b false) (f := fun r => .b r) (.inr rfl) ?_ (.refl _) (Option.some.inj hM) hS
    exact (res_one (res_tmp (x := .b false) rfl))
   ·replace hM := ifF hM hb5
    refine w_condF (e := (!r4)) rfl hb5 ?_
    refine r_skip ?_
    refine r_blk_normal ?_
    refine w_next [(1, .sl .no 1 (a1.map cI)), (2, .i a2), (3, .ep [.i a0.Round, .sl .no 1 (a0.Notches.map cI), .sl .no 1 (a0.Coins.map cI)]), (7, .i v1)] (.k (.k (.k (.k .nil)))) ?_
    refine r_region (n := 3) rfl ?_
    refine o_move (v := .i v1) (by decide) rfl ?_
    refine o_int (v := .i (w64 (v1 + 1))) (by decide) rfl rfl rfl ?_
    refine o_assign (v := .i (w64 (v1 + 1))) (by decide) rfl ?_
    refine run_nil ?_
    exact w_round (w64 (v1 + 1)) (Nat.lt_succ_self _) (.k (.k (.k (.k .nil)))) ⟨(hS.keep [] rfl).up (by omega), hM⟩
  ·replace hM := ifF hM hb2
   refine w_condF (e := (decide (v1 < (a1.length : Int)))) rfl hb2 ?_
   refine r_exit ?_
   refine r_then_exit ?_
   refine w_round_exit ?_
   refine r_blk_exit ?_
   exact w_goto () (.k .nil) ⟨(hS.keep [] rfl).up (by omega), hM⟩
theorem W_ref01_What {n : Nat} {a0 : Wheel} {a1 : Int} {a2 : List Int} {r : (List Seen) × Int} (hM : ref01_What n a0 a1 a2 = some r) : PureSat Try.prog 37 [.agg [.i a0.Round, .sl .no 1 (a0.Notches.map cI), .sl .no 1 (a0.Coins.map cI)], .i a1, .sl .no 1 (a2.map cI)] (.tup [.sl .no 2 (r.1.map Seen.cells), .i r.2]) := by
 refine pure_of_wp mixed Try.func37 rfl (by decide) Try.ntmps37 (by simp) ?pure fun H0 g hf => ?_
 case pure => exact .tup _ (pl_cons (.sl _ _ (pures_map (fun x => (pl_cons (.v _) (pl_cons (.v _) pl_nil))))) (pl_cons (.v _) pl_nil))
 rw [frame0_of]
 change wpA _ _ _ _ (Fr.of [(0, .agg [.i a0.Round, .sl .no 1 (a0.Notches.map cI), .sl .no 1 (a0.Coins.map cI)]), (1, .i a1), (2, .sl .no 1 (a2.map cI))]) H0 g
 have hS := St.start hf
 refine r_seq ?_
 refine r_region (n := 3) rfl ?_
 refine o_box (v := .agg [.i a0.Round, .sl .no 1 (a0.Notches.map cI), .sl .no 1 (a0.Coins.map cI)]) (cs := [.i a0.Round, .sl .no 1 (a0.Notches.map cI), .sl .no 1 (a0.Coins.map cI)]) hS (by decide) rfl rfl (by omega) fun H hS => ?_
 refine o_assign (v := .sl .nil 0 []) (by decide) rfl ?_
 refine o_assign (v := .i 0) (by decide) rfl ?_
 refine run_nil ?_
 refine w_iceE (L' := []) 0 3 hS rfl rfl rfl fun H hS => ?_
 refine w_own [(1, .i a1), (2, .sl .no 1 (a2.map cI)), (3, .ep [.i a0.Round, .sl .no 1 (a0.Notches.map cI), .sl .no 1 (a0.Coins.map cI)]), (6, .sl (.id (g + 3)) 2 (([] : List Seen).map Seen.cells))] 6 2 50 hS (by omega) (by decide) rfl (.k (.k (.k (.k .nil)))) fun H hS => ?_
 refine w_join (J := Int × (List Seen)) (fun j => [(1, .i j.1), (6, .sl (.id (g + 3)) 2 (j.2.map Seen.cells))]) (fun j H' g' => St (· < g) H0 [(g + 3, .row 50 j.2.length)] H' g' ∧ ref01_What_j1 j.1 j.2 = some r) ?_ ?_
 ·rintro ⟨v1, v2⟩ H g1 ⟨hS, hM⟩
  change wpA _ _ _ _ (Fr.of [(1, .i v1), (6, .sl (.id (g + 3)) 2 (v2.map Seen.cells))]) _ _
  replace hS : St (· < g) H0 [(g + 3, .row 50 v2.length)] H g1 := hS
  replace hM : ref01_What_j1 v1 v2 = some r := hM
  refine r_seq ?_
  refine r_region (n := 4) rfl ?_
  refine o_move (v := .sl (.id (g + 3)) 2 (v2.map Seen.cells)) (by decide) rfl ?_
  refine o_move (v := .i v1) (by decide) rfl ?_
  refine o_assign (v := .sl (.id (g + 3)) 2 (v2.map Seen.cells)) (by decide) rfl ?_
  refine o_assign (v := .i v1) (by decide) rfl ?_
  refine run_nil ?_
  refine w_next [(6, .sl (.id (g + 3)) 2 (v2.map Seen.cells)), (7, .i v1)] (.k (.k .nil)) ?_
  refine r_ret ?_
  refine w_end (x := .tup [.sl (.id (g + 3)) 2 (v2.map Seen.cells), .i v1]) (f := fun r => .tup [.sl .no 2 (r.1.map Seen.cells), .i r.2]) (.inr rfl) ?_ (.tupL (.cons (.sl _ _ _) (.k .nil))) (Option.some.inj hM) hS
  exact (res_two (res_tmp (x := .sl (.id (g + 3)) 2 (v2.map Seen.cells)) rfl) (res_tmp (x := .i v1) rfl))
 ·refine r_seq ?_
  refine r_region (n := 1) rfl ?_
  refine o_assign (v := .i 0) (by decide) rfl ?_
  refine run_nil ?_
  refine w_next [(1, .i a1), (2, .sl .no 1 (a2.map cI)), (3, .ep [.i a0.Round, .sl .no 1 (a0.Notches.map cI), .sl .no 1 (a0.Coins.map cI)]), (6, .sl (.id (g + 3)) 2 (([] : List Seen).map Seen.cells)), (8, .i 0)] (.k (.k (.k (.k (.k .nil))))) ?_
  refine r_block ?_
  refine w_loop (V := Int × (List Seen) × Int) (fun v => [(1, .i v.1), (2, .sl .no 1 (a2.map cI)), (3, .ep [.i a0.Round, .sl .no 1 (a0.Notches.map cI), .sl .no 1 (a0.Coins.map cI)]), (6, .sl (.id (g + 3)) 2 (v.2.1.map Seen.cells)), (8, .i v.2.2)]) (fun v m2 H' g' => St (· < g) H0 [(g + 3, .row 50 v.2.1.length)] H' g' ∧ ref01_What_l1 n a0 a2 m2 v.1 v.2.1 v.2.2 = some r) (n := n) (a1, ([] : List Seen), 0) (.k (.k (.k (.k (.k .nil))))) ⟨(hS.keep [true] rfl).up (by omega), hM⟩ ?_
  rintro ⟨v3, v4, v5⟩ m2 H g2 ⟨hS, hM⟩
  obtain _ | m2 := m2
  ·exact nomatch (show none = some _ from hM)
  change wpA _ _ _ _ (Fr.of [(1, .i v3), (2, .sl .no 1 (a2.map cI)), (3, .ep [.i a0.Round, .sl .no 1 (a0.Notches.map cI), .sl .no 1 (a0.Coins.map cI)]), (6, .sl (.id (g + 3)) 2 (v4.map Seen.cells)), (8, .i v5)]) _ _
  replace hS : St (· < g) H0 [(g + 3, .row 50 v4.length)] H g2 := hS
  replace hM : ref01_What_l1_b n a0 a2 (ref01_What_l1 n a0 a2 m2) v3 v4 v5 = some r := hM
  refine r_seq ?_
  refine r_seq ?_
  refine r_region (n := 4) rfl ?_
  refine o_move (v := .i v5) (by decide) rfl ?_
  refine o_move (v := .sl .no 1 (a2.map cI)) (by decide) rfl ?_
  refine o_len (n := a2.length) (by decide) rfl (List.length_map _) ty_isl22 ?_
  refine o_int (v := .b (decide (v5 < (a2.length : Int)))) (by decide) rfl rfl rfl ?_
  refine run_nil ?_
  refine w_next [(1, .i v3), (2, .sl .no 1 (a2.map cI)), (3, .ep [.i a0.Round, .sl .no 1 (a0.Notches.map cI), .sl .no 1 (a0.Coins.map cI)]), (6, .sl (.id (g + 3)) 2 (v4.map Seen.cells)), (8, .i v5), (14, .b (decide (v5 < (a2.length : Int))))] (.k (.k (.k (.k (.k (.k .nil)))))) ?_
  rcases Bool.eq_false_or_eq_true (decide (v5 < (a2.length : Int))) with hb6 | hb6
  ·replace hM := ifT hM hb6
   refine w_condT (e := (decide (v5 < (a2.length : Int)))) rfl hb6 ?_
   refine r_skip ?_
   refine w_next [(1, .i v3), (2, .sl .no 1 (a2.map cI)), (3, .ep [.i a0.Round, .sl .no 1 (a0.Notches.map cI), .sl .no 1 (a0.Coins.map cI)]), (6, .sl (.id (g + 3)) 2 (v4.map Seen.cells)), (8, .i v5)] (.k (.k (.k (.k (.k .nil))))) ?_
   refine r_seq ?_
   refine r_block ?_
   refine r_seq ?_
   have hS0 := hS
   refine r_draw (n := 16) rfl (by kernel_rfl) ?_
   refine o_loadE (v := .agg [.i a0.Round, .sl .no 1 (a0.Notches.map cI), .sl .no 1 (a0.Coins.map cI)]) (by decide) rfl (part_agg ty_agg24 (Nat.le_of_ble_eq_true rfl) rfl) ?_
   refine o_move (v := .i v3) (by decide) rfl ?_
   refine o_fieldE (cs := [.i a0.Round, .sl .no 1 (a0.Notches.map cI), .sl .no 1 (a0.Coins.map cI)]) (by decide) ty_fo24_2 rfl ?_
   refine o_loadE (v := .sl .no 1 (a0.Coins.map cI)) (by decide) rfl (part_one ty_agg22 ty_sc22 rfl) ?_
   refine o_move (v := .sl .no 1 (a2.map cI)) (by decide) rfl ?_
   refine o_move (v := .i v5) (by decide) rfl ?_
   obtain ⟨x7, hx7, hM⟩ := bindE hM
   refine o_index (xs := a2) (f := cI) (z := v5) (u := x7) (by decide) rfl rfl ty_es22 hx7 ?_
   refine o_loadE (v := .i x7) (by decide) rfl (part_one ty_agg3 ty_sc3 rfl) ?_
   obtain ⟨x8, hx8, hM⟩ := bindE hM
   refine o_index (xs := a0.Coins) (f := cI) (z := x7) (u := x8) (by decide) rfl rfl ty_es22 hx8 ?_
   refine o_loadE (v := .i x8) (by decide) rfl (part_one ty_agg3 ty_sc3 rfl) ?_
   obtain ⟨r9, hr9, hM⟩ := bindE hM
   refine o_call (bs := [.agg [.i a0.Round, .sl .no 1 (a0.Notches.map cI), .sl .no 1 (a0.Coins.map cI)], .i v3, .i x8]) (by decide) rfl rfl ((W_ref01_Put hr9).le (.k (.k (.k .nil)))) ?_
   refine o_move (v := .tup [.i r9.1, .i r9.2]) (by decide) rfl ?_
   refine o_extract (v := .i r9.1) (by decide) rfl rfl ?_
   refine o_extract (v := .i r9.2) (by decide) rfl rfl ?_
   refine o_assign (v := .i r9.1) (by decide) rfl ?_
   refine o_assign (v := .i r9.2) (by decide) rfl ?_
   refine run_nil ?_
   refine w_next [(2, .sl .no 1 (a2.map cI)), (3, .ep [.i a0.Round, .sl .no 1 (a0.Notches.map cI), .sl .no 1 (a0.Coins.map cI)]), (6, .sl (.id (g + 3)) 2 (v4.map Seen.cells)), (8, .i v5), (9, .i r9.1), (10, .i r9.2)] (.k (.k (.k (.k (.k (.k .nil)))))) ?_
   refine r_region (n := 12) rfl ?_
   refine o_move (v := .sl (.id (g + 3)) 2 (v4.map Seen.cells)) (by decide) rfl ?_
   refine o_move (v := .sl .no 1 (a2.map cI)) (by decide) rfl ?_
   refine o_move (v := .i v5) (by decide) rfl ?_
   obtain ⟨x10, hx10, hM⟩ := bindE hM
   refine o_index (xs := a2) (f := cI) (z := v5) (u := x10) (by decide) rfl rfl ty_es22 hx10 ?_
   refine o_loadE (v := .i x10) (by decide) rfl (part_one ty_agg3 ty_sc3 rfl) ?_
   refine o_move (v := .i r9.2) (by decide) rfl ?_
   refine o_build (cs := [.i x10, .i r9.2]) (by decide) ty_zero50 ty_pl50 rfl ?_
   refine o_buildSlice (es := [[.i x10, .i r9.2]]) hS (by decide) ty_es45 ty_el45 rfl ty_ef45 rfl (by decide) (by omega) fun H hS => ?_
   obtain ⟨l11, hl11, hM⟩ := bindE hM
   refine o_append (xs := v4) (ys := ([(⟨x10, r9.2⟩ : Seen)] : List Seen)) (zs := l11) (f := Seen.cells) (L' := [(g2 + 4 + 16 + 7, .row 50 1), (g + 3, .row 50 l11.length)]) 1 hS (by decide) rfl rfl rfl rfl .no ty_es45 ty_el45 ty_ef45 hl11 rfl fun H hS => ?_
   refine o_move (v := .i r9.1) (by decide) rfl ?_
   refine o_assign (v := .sl (.id (g + 3)) 2 (l11.map Seen.cells)) (by decide) rfl ?_
   refine o_assign (v := .i r9.1) (by decide) rfl ?_
   refine run_nil ?_
   refine r_blk_normal ?_
   replace hS := hS.keep (L' := [(g + 3, .row 50 l11.length)]) [false, true] rfl
   refine w_next [(1, .i r9.1), (2, .sl .no 1 (a2.map cI)), (3, .ep [.i a0.Round, .sl .no 1 (a0.Notches.map cI), .sl .no 1 (a0.Coins.map cI)]), (6, .sl (.id (g + 3)) 2 (l11.map Seen.cells)), (8, .i v5)] (.k (.k (.k (.k (.k .nil))))) ?_
   refine r_region (n := 3) rfl ?_
   refine o_move (v := .i v5) (by decide) rfl ?_
   refine o_int (v := .i (w64 (v5 + 1))) (by decide) rfl rfl rfl ?_
   refine o_assign (v := .i (w64 (v5 + 1))) (by decide) rfl ?_
   refine run_nil ?_
   exact w_round (r9.1, l11, w64 (v5 + 1)) (Nat.lt_succ_self _) (.k (.k (.k (.k (.k .nil))))) ⟨(hS.keep [true] rfl).up (by omega), hM⟩
  ·replace hM := ifF hM hb6
   refine w_condF (e := (decide (v5 < (a2.length : Int)))) rfl hb6 ?_
   refine r_exit ?_
   refine r_then_exit ?_
   refine w_round_exit ?_
   refine r_blk_exit ?_
   exact w_goto (v3, v4) (.k (.k .nil)) ⟨(hS.keep [true] rfl).up (by omega), hM⟩
theorem W_law01_CoinsSeen {n : Nat} {a0 : Wheel} {a1 : Int} {a2 : List Int} {r : Bool} (hM : law01_CoinsSeen n a0 a1 a2 = some r) : PureSat Try.prog 7 [.agg [.i a0.Round, .sl .no 1 (a0.Notches.map cI), .sl .no 1 (a0.Coins.map cI)], .i a1, .sl .no 1 (a2.map cI)] (.b r) := by
 refine pure_of_wp mixed Try.func7 rfl (by decide) Try.ntmps7 (by simp) ?pure fun H0 g hf => ?_
 case pure => exact .v _
 rw [frame0_of]
 change wpA _ _ _ _ (Fr.of [(0, .agg [.i a0.Round, .sl .no 1 (a0.Notches.map cI), .sl .no 1 (a0.Coins.map cI)]), (1, .i a1), (2, .sl .no 1 (a2.map cI))]) H0 g
 have hS := St.start hf
 refine r_seq ?_
 refine r_region (n := 2) rfl ?_
 refine o_box (v := .agg [.i a0.Round, .sl .no 1 (a0.Notches.map cI), .sl .no 1 (a0.Coins.map cI)]) (cs := [.i a0.Round, .sl .no 1 (a0.Notches.map cI), .sl .no 1 (a0.Coins.map cI)]) hS (by decide) rfl rfl (by omega) fun H hS => ?_
 refine o_assign (v := .b false) (by decide) rfl ?_
 refine run_nil ?_
 refine w_iceE (L' := []) 0 3 hS rfl rfl rfl fun H hS => ?_
 refine w_next [(1, .i a1), (2, .sl .no 1 (a2.map cI)), (3, .ep [.i a0.Round, .sl .no 1 (a0.Notches.map cI), .sl .no 1 (a0.Coins.map cI)])] (.k (.k (.k .nil))) ?_
 refine r_seq ?_
 refine w_join (J := Bool) (fun j => [(1, .i a1), (2, .sl .no 1 (a2.map cI)), (3, .ep [.i a0.Round, .sl .no 1 (a0.Notches.map cI), .sl .no 1 (a0.Coins.map cI)]), (35, .b j)]) (fun j H' g' => St (· < g) H0 [] H' g' ∧ law01_CoinsSeen_j1 n a0 a1 a2 j = some r) ?_ ?_
 ·rintro v1 H g1 ⟨hS, hM⟩
  change wpA _ _ _ _ (Fr.of [(1, .i a1), (2, .sl .no 1 (a2.map cI)), (3, .ep [.i a0.Round, .sl .no 1 (a0.Notches.map cI), .sl .no 1 (a0.Coins.map cI)]), (35, .b v1)]) _ _
  replace hS : St (· < g) H0 [] H g1 := hS
  replace hM : law01_CoinsSeen_j1 n a0 a1 a2 v1 = some r := hM
  rcases Bool.eq_false_or_eq_true v1 with hb2 | hb2
  ·replace hM := ifT hM hb2
   refine w_condT (e := v1) rfl hb2 ?_
   refine r_seq ?_
   refine r_region (n := 2) rfl ?_
   obtain ⟨r3, hr3, hM⟩ := bindE hM
   refine o_call (bs := []) (by decide) rfl rfl ((W_law01_works hr3).le .nil) ?_
   refine o_assign (v := .b r3) (by decide) rfl ?_
   refine run_nil ?_
   refine w_next [(6, .b r3)] (.k .nil) ?_
   refine r_ret ?_
   refine r_then_ret ?_
   refine w_end (x := .b r3) (f := fun r => .b r) (.inr rfl) ?_ (.refl _) (Option.some.inj hM) hS
   exact (res_one (res_tmp (x := .b r3) rfl))
  ·replace hM := ifF hM hb2
   refine w_condF (e := v1) rfl hb2 ?_
   refine r_skip ?_
   refine w_next [(1, .i a1), (2, .sl .no 1 (a2.map cI)), (3, .ep [.i a0.Round, .sl .no 1 (a0.Notches.map cI), .sl .no 1 (a0.Coins.map cI)])] (.k (.k (.k .nil))) ?_
   refine r_seq ?_
   refine r_region (n := 9) rfl ?_
   refine o_loadE (v := .agg [.i a0.Round, .sl .no 1 (a0.Notches.map cI), .sl .no 1 (a0.Coins.map cI)]) (by decide) rfl (part_agg ty_agg24 (Nat.le_of_ble_eq_true rfl) rfl) ?_
   refine o_move (v := .i a1) (by decide) rfl ?_
   refine o_move (v := .sl .no 1 (a2.map cI)) (by decide) rfl ?_
   obtain ⟨r4, hr4, hM⟩ := bindE hM
   refine o_call (bs := [.agg [.i a0.Round, .sl .no 1 (a0.Notches.map cI), .sl .no 1 (a0.Coins.map cI)], .i a1, .sl .no 1 (a2.map cI)]) (by decide) rfl rfl ((W_ref01_What hr4).le (.k (.k (.k .nil)))) ?_
   refine o_move (v := .tup [.sl .no 2 (r4.1.map Seen.cells), .i r4.2]) (by decide) rfl ?_
   refine o_extract (v := .sl .no 2 (r4.1.map Seen.cells)) (by decide) rfl rfl ?_
   refine o_extract (v := .i r4.2) (by decide) rfl rfl ?_
   refine o_assign (v := .sl .no 2 (r4.1.map Seen.cells)) (by decide) rfl ?_
   refine o_assign (v := .i r4.2) (by decide) rfl ?_
   refine run_nil ?_
   refine w_next [(1, .i a1), (2, .sl .no 1 (a2.map cI)), (3, .ep [.i a0.Round, .sl .no 1 (a0.Notches.map cI), .sl .no 1 (a0.Coins.map cI)]), (7, .sl .no 2 (r4.1.map Seen.cells)), (8, .i r4.2)] (.k (.k (.k (.k (.k .nil))))) ?_
   refine r_seq ?_
   have hS0 := hS
   refine r_draw (n := 10) rfl (by kernel_rfl) ?_
   refine o_loadE (v := .agg [.i a0.Round, .sl .no 1 (a0.Notches.map cI), .sl .no 1 (a0.Coins.map cI)]) (by decide) rfl (part_agg ty_agg24 (Nat.le_of_ble_eq_true rfl) rfl) ?_
   refine o_buildSlice (es := []) hS (by decide) ty_es45 ty_el45 rfl ty_ef45 rfl (by decide) (by omega) fun H hS => ?_
   refine o_move (v := .sl .no 2 (r4.1.map Seen.cells)) (by decide) rfl ?_
   obtain ⟨l5, hl5, hM⟩ := bindE hM
   refine o_append (xs := ([] : List Seen)) (ys := r4.1) (zs := l5) (f := Seen.cells) (L' := [(g1 + 9 + 1, .row 50 l5.length)]) 0 hS (by decide) rfl rfl rfl rfl (.behind (by kernel_rfl)) ty_es45 ty_el45 ty_ef45 hl5 rfl fun H hS => ?_
   obtain ⟨r6, hr6, hM⟩ := bindE hM
   refine o_call (bs := [.agg [.i a0.Round, .sl .no 1 (a0.Notches.map cI), .sl .no 1 (a0.Coins.map cI)], .sl (.id (g1 + 9 + 1)) 2 (l5.map Seen.cells)]) (by decide) rfl rfl ((W_coins_Could hr6).le (.k (.cons (.sl _ _ _) .nil))) ?_
   refine o_move (v := .tup [.sl .no 1 (r6.1.map cI), .i r6.2]) (by decide) rfl ?_
   refine o_extract (v := .sl .no 1 (r6.1.map cI)) (by decide) rfl rfl ?_
   refine o_extract (v := .i r6.2) (by decide) rfl rfl ?_
   refine o_assign (v := .sl .no 1 (r6.1.map cI)) (by decide) rfl ?_
   refine o_assign (v := .i r6.2) (by decide) rfl ?_
   refine run_nil ?_
   replace hS := hS.keep (L' := []) [false] rfl
   refine w_next [(1, .i a1), (2, .sl .no 1 (a2.map cI)), (3, .ep [.i a0.Round, .sl .no 1 (a0.Notches.map cI), .sl .no 1 (a0.Coins.map cI)]), (7, .sl .no 2 (r4.1.map Seen.cells)), (8, .i r4.2), (9, .sl .no 1 (r6.1.map cI)), (10, .i r6.2)] (.k (.k (.k (.k (.k (.k (.k .nil))))))) ?_
   refine r_seq ?_
   have hS0 := hS
   refine r_draw (n := 10) rfl (by kernel_rfl) ?_
   refine o_loadE (v := .agg [.i a0.Round, .sl .no 1 (a0.Notches.map cI), .sl .no 1 (a0.Coins.map cI)]) (by decide) rfl (part_agg ty_agg24 (Nat.le_of_ble_eq_true rfl) rfl) ?_
   refine o_buildSlice (es := []) hS (by decide) ty_es45 ty_el45 rfl ty_ef45 rfl (by decide) (by omega) fun H hS => ?_
   refine o_move (v := .sl .no 2 (r4.1.map Seen.cells)) (by decide) rfl ?_
   obtain ⟨l7, hl7, hM⟩ := bindE hM
   refine o_append (xs := ([] : List Seen)) (ys := r4.1) (zs := l7) (f := Seen.cells) (L' := [(g1 + 9 + 10 + 1, .row 50 l7.length)]) 0 hS (by decide) rfl rfl rfl rfl (.behind (by kernel_rfl)) ty_es45 ty_el45 ty_ef45 hl7 rfl fun H hS => ?_
   obtain ⟨r8, hr8, hM⟩ := bindE hM
   refine o_call (bs := [.agg [.i a0.Round, .sl .no 1 (a0.Notches.map cI), .sl .no 1 (a0.Coins.map cI)], .sl (.id (g1 + 9 + 10 + 1)) 2 (l7.map Seen.cells)]) (by decide) rfl rfl ((W_coins_Now hr8).le (.k (.cons (.sl _ _ _) .nil))) ?_
   refine o_move (v := .tup [.sl .no 1 (r8.1.map cI), .i r8.2]) (by decide) rfl ?_
   refine o_extract (v := .sl .no 1 (r8.1.map cI)) (by decide) rfl rfl ?_
   refine o_extract (v := .i r8.2) (by decide) rfl rfl ?_
   refine o_assign (v := .sl .no 1 (r8.1.map cI)) (by decide) rfl ?_
   refine o_assign (v := .i r8.2) (by decide) rfl ?_
   refine run_nil ?_
   replace hS := hS.keep (L' := []) [false] rfl
   refine w_next [(1, .i a1), (2, .sl .no 1 (a2.map cI)), (3, .ep [.i a0.Round, .sl .no 1 (a0.Notches.map cI), .sl .no 1 (a0.Coins.map cI)]), (7, .sl .no 2 (r4.1.map Seen.cells)), (8, .i r4.2), (9, .sl .no 1 (r6.1.map cI)), (10, .i r6.2), (11, .sl .no 1 (r8.1.map cI)), (12, .i r8.2)] (.k (.k (.k (.k (.k (.k (.k (.k (.k .nil))))))))) ?_
   refine r_seq ?_
   refine w_join (J := Bool) (fun j => [(2, .sl .no 1 (a2.map cI)), (3, .ep [.i a0.Round, .sl .no 1 (a0.Notches.map cI), .sl .no 1 (a0.Coins.map cI)]), (7, .sl .no 2 (r4.1.map Seen.cells)), (9, .sl .no 1 (r6.1.map cI)), (94, .b j)]) (fun j H' g' => St (· < g) H0 [] H' g' ∧ law01_CoinsSeen_j2 n a0 a2 r4 r6 j = some r) ?_ ?_
   ·rintro v9 H g2 ⟨hS, hM⟩
    change wpA _ _ _ _ (Fr.of [(2, .sl .no 1 (a2.map cI)), (3, .ep [.i a0.Round, .sl .no 1 (a0.Notches.map cI), .sl .no 1 (a0.Coins.map cI)]), (7, .sl .no 2 (r4.1.map Seen.cells)), (9, .sl .no 1 (r6.1.map cI)), (94, .b v9)]) _ _
    replace hS : St (· < g) H0 [] H g2 := hS
    replace hM : law01_CoinsSeen_j2 n a0 a2 r4 r6 v9 = some r := hM
    rcases Bool.eq_false_or_eq_true v9 with hb10 | hb10
    ·replace hM := ifT hM hb10
     refine w_condT (e := v9) rfl hb10 ?_
     refine r_seq ?_
     refine r_region (n := 1) rfl ?_
     refine o_assign (v := .b false) (by decide) rfl ?_
     refine run_nil ?_
     refine w_next [(6, .b false)] (.k .nil) ?_
     refine r_ret ?_
     refine r_then_ret ?_
     refine w_end (x := .b false) (f := fun r => .b r) (.inr rfl) ?_ (.refl _) (Option.some.inj hM) hS
     exact (res_one (res_tmp (x := .b false) rfl))
    ·replace hM := ifF hM hb10
     refine w_condF (e := v9) rfl hb10 ?_
     refine r_skip ?_
     refine w_next [(2, .sl .no 1 (a2.map cI)), (3, .ep [.i a0.Round, .sl .no 1 (a0.Notches.map cI), .sl .no 1 (a0.Coins.map cI)]), (7, .sl .no 2 (r4.1.map Seen.cells)), (9, .sl .no 1 (r6.1.map cI))] (.k (.k (.k (.k .nil)))) ?_
     refine r_seq ?_
     refine r_seq ?_
     refine r_region (n := 3) rfl ?_
     refine o_move (v := .sl .no 1 (a2.map cI)) (by decide) rfl ?_
     refine o_len (n := a2.length) (by decide) rfl (List.length_map _) ty_isl22 ?_
     refine o_int (v := .b ((a2.length : Int) == 0)) (by decide) rfl rfl rfl ?_
     refine run_nil ?_
     refine w_next [(3, .ep [.i a0.Round, .sl .no 1 (a0.Notches.map cI), .sl .no 1 (a0.Coins.map cI)]), (7, .sl .no 2 (r4.1.map Seen.cells)), (9, .sl .no 1 (r6.1.map cI)), (97, .b ((a2.length : Int) == 0))] (.k (.k (.k (.k .nil)))) ?_
     rcases Bool.eq_false_or_eq_true ((a2.length : Int) == 0) with hb11 | hb11
     ·replace hM := ifT hM hb11
      refine w_condT (e := ((a2.length : Int) == 0)) rfl hb11 ?_
      refine w_join (J := Bool) (fun j => [(6, .b j)]) (fun j H' g' => St (· < g) H0 [] H' g' ∧ law01_CoinsSeen_j3 j = some r) ?_ ?_
      ·rintro v12 H g3 ⟨hS, hM⟩
       change wpA _ _ _ _ (Fr.of [(6, .b v12)]) _ _
       replace hS : St (· < g) H0 [] H g3 := hS
       replace hM : law01_CoinsSeen_j3 v12 = some r := hM
       refine r_ret ?_
       refine r_then_ret ?_
       refine w_end (x := .b v12) (f := fun r => .b r) (.inr rfl) ?_ (.refl _) (Option.some.inj hM) hS
       exact (res_one (res_tmp (x := .b v12) rfl))
      ·refine r_region (n := 9) rfl ?_
       refine o_move (v := .sl .no 1 (r6.1.map cI)) (by decide) rfl ?_
       refine o_len (n := r6.1.length) (by decide) rfl (List.length_map _) ty_isl22 ?_
       refine o_fieldE (cs := [.i a0.Round, .sl .no 1 (a0.Notches.map cI), .sl .no 1 (a0.Coins.map cI)]) (by decide) ty_fo24_0 rfl ?_
       refine o_loadE (v := .i a0.Round) (by decide) rfl (part_one ty_agg3 ty_sc3 rfl) ?_
       refine o_int (v := .b ((r6.1.length : Int) == a0.Round)) (by decide) rfl rfl rfl ?_
       refine o_move (v := .b ((r6.1.length : Int) == a0.Round)) (by decide) rfl ?_
       rcases Bool.eq_false_or_eq_true ((r6.1.length : Int) == a0.Round) with hb13 | hb13
       ·replace hM := ifT hM hb13
        refine o_guardY (j := 5) (e := ((r6.1.length : Int) == a0.Round)) (want := true) rfl hb13 ?_
        obtain ⟨r14, hr14, hM⟩ := bindE hM
        refine o_call (bs := []) (by decide) rfl rfl ((W_law01_works hr14).le .nil) ?_
        refine o_pickT (v := .b r14) (e := ((r6.1.length : Int) == a0.Round)) (by decide) rfl hb13 rfl ?_
        refine o_assign (v := .b r14) (by decide) rfl ?_
        refine run_nil ?_
        exact w_goto r14 (.k .nil) ⟨(hS.keep [] rfl).up (by omega), hM⟩
       ·replace hM := ifF hM hb13
        refine o_guardN (j := 5) (e := ((r6.1.length : Int) == a0.Round)) (want := true) (by decide) rfl hb13 ?_
        refine o_pickF (v := .b false) (e := ((r6.1.length : Int) == a0.Round)) (by decide) rfl hb13 rfl ?_
        refine o_assign (v := .b false) (by decide) rfl ?_
        refine run_nil ?_
        exact w_goto false (.k .nil) ⟨(hS.keep [] rfl).up (by omega), hM⟩
     ·replace hM := ifF hM hb11
      refine w_condF (e := ((a2.length : Int) == 0)) rfl hb11 ?_
      refine r_skip ?_
      refine w_next [(3, .ep [.i a0.Round, .sl .no 1 (a0.Notches.map cI), .sl .no 1 (a0.Coins.map cI)]), (7, .sl .no 2 (r4.1.map Seen.cells)), (9, .sl .no 1 (r6.1.map cI))] (.k (.k (.k .nil))) ?_
      refine r_seq ?_
      have hS0 := hS
      refine r_draw (n := 14) rfl (by kernel_rfl) ?_
      refine o_loadE (v := .agg [.i a0.Round, .sl .no 1 (a0.Notches.map cI), .sl .no 1 (a0.Coins.map cI)]) (by decide) rfl (part_agg ty_agg24 (Nat.le_of_ble_eq_true rfl) rfl) ?_
      refine o_buildSlice (es := []) hS (by decide) ty_es45 ty_el45 rfl ty_ef45 rfl (by decide) (by omega) fun H hS => ?_
      refine o_move (v := .sl .no 2 (r4.1.map Seen.cells)) (by decide) rfl ?_
      refine o_move (v := .sl .no 2 (r4.1.map Seen.cells)) (by decide) rfl ?_
      refine o_len (n := r4.1.length) (by decide) rfl (List.length_map _) ty_isl45 ?_
      refine o_int (v := .i (w64 ((r4.1.length : Int) - 1))) (by decide) rfl rfl rfl ?_
      obtain ⟨c15, hc15, hM⟩ := bindE hM
      refine o_slice (xs := r4.1) (ys := c15) (f := Seen.cells) (p := 0) (q := (w64 ((r4.1.length : Int) - 1))) (by decide) rfl ty_es45 (.inl ⟨rfl, rfl⟩) (.inr rfl) hc15 ?_
      obtain ⟨l16, hl16, hM⟩ := bindE hM
      refine o_append (xs := ([] : List Seen)) (ys := c15) (zs := l16) (f := Seen.cells) (L' := [(g2 + 3 + 1, .row 50 l16.length)]) 0 hS (by decide) rfl rfl rfl rfl (.behind (by kernel_rfl)) ty_es45 ty_el45 ty_ef45 hl16 rfl fun H hS => ?_
      obtain ⟨r17, hr17, hM⟩ := bindE hM
      refine o_call (bs := [.agg [.i a0.Round, .sl .no 1 (a0.Notches.map cI), .sl .no 1 (a0.Coins.map cI)], .sl (.id (g2 + 3 + 1)) 2 (l16.map Seen.cells)]) (by decide) rfl rfl ((W_coins_Could hr17).le (.k (.cons (.sl _ _ _) .nil))) ?_
      refine o_move (v := .tup [.sl .no 1 (r17.1.map cI), .i r17.2]) (by decide) rfl ?_
      refine o_extract (v := .sl .no 1 (r17.1.map cI)) (by decide) rfl rfl ?_
      refine o_extract (v := .i r17.2) (by decide) rfl rfl ?_
      refine o_assign (v := .sl .no 1 (r17.1.map cI)) (by decide) rfl ?_
      refine o_assign (v := .i r17.2) (by decide) rfl ?_
      refine run_nil ?_
      replace hS := hS.keep (L' := []) [false] rfl
      refine w_next [(9, .sl .no 1 (r6.1.map cI)), (13, .sl .no 1 (r17.1.map cI)), (14, .i r17.2)] (.k (.k (.k .nil))) ?_
      refine r_seq ?_
      refine w_join (J := Bool) (fun j => [(9, .sl .no 1 (r6.1.map cI)), (13, .sl .no 1 (r17.1.map cI)), (124, .b j)]) (fun j H' g' => St (· < g) H0 [] H' g' ∧ law01_CoinsSeen_j4 n r6 r17 j = some r) ?_ ?_
      ·rintro v18 H g4 ⟨hS, hM⟩
       change wpA _ _ _ _ (Fr.of [(9, .sl .no 1 (r6.1.map cI)), (13, .sl .no 1 (r17.1.map cI)), (124, .b v18)]) _ _
       replace hS : St (· < g) H0 [] H g4 := hS
       replace hM : law01_CoinsSeen_j4 n r6 r17 v18 = some r := hM
       rcases Bool.eq_false_or_eq_true v18 with hb19 | hb19
       ·replace hM := ifT hM hb19
        refine w_condT (e := v18) rfl hb19 ?_
        refine r_seq ?_
        refine r_region (n := 1) rfl ?_
        refine o_assign (v := .b false) (by decide) rfl ?_
        refine run_nil ?_
        refine w_next [(6, .b false)] (.k .nil) ?_
        refine r_ret ?_
        refine r_then_ret ?_
        refine w_end (x := .b false) (f := fun r => .b r) (.inr rfl) ?_ (.refl _) (Option.some.inj hM) hS
        exact (res_one (res_tmp (x := .b false) rfl))
       ·replace hM := ifF hM hb19
        refine w_condF (e := v18) rfl hb19 ?_
        refine r_skip ?_
        refine w_next [(9, .sl .no 1 (r6.1.map cI)), (13, .sl .no 1 (r17.1.map cI))] (.k (.k .nil)) ?_
        refine w_join (J := Unit) (fun j => []) (fun j H' g' => St (· < g) H0 [] H' g' ∧ law01_CoinsSeen_j5 n = some r) ?_ ?_
        ·rintro _ H g5 ⟨hS, hM⟩
         change wpA _ _ _ _ (Fr.of []) _ _
         replace hS : St (· < g) H0 [] H g5 := hS
         replace hM : law01_CoinsSeen_j5 n = some r := hM
         refine r_seq ?_
         refine r_region (n := 2) rfl ?_
         obtain ⟨r20, hr20, hM⟩ := bindE hM
         refine o_call (bs := []) (by decide) rfl rfl ((W_law01_works hr20).le .nil) ?_
         refine o_assign (v := .b r20) (by decide) rfl ?_
         refine run_nil ?_
         refine w_next [(6, .b r20)] (.k .nil) ?_
         refine r_ret ?_
         refine w_end (x := .b r20) (f := fun r => .b r) (.inr rfl) ?_ (.refl _) (Option.some.inj hM) hS
         exact (res_one (res_tmp (x := .b r20) rfl))
        ·refine r_seq ?_
         refine r_region (n := 1) rfl ?_
         refine o_assign (v := .i 0) (by decide) rfl ?_
         refine run_nil ?_
         refine w_next [(9, .sl .no 1 (r6.1.map cI)), (13, .sl .no 1 (r17.1.map cI)), (15, .i 0)] (.k (.k (.k .nil))) ?_
         refine r_block ?_
         refine w_loop (V := Int) (fun v => [(9, .sl .no 1 (r6.1.map cI)), (13, .sl .no 1 (r17.1.map cI)), (15, .i v)]) (fun v m6 H' g' => St (· < g) H0 [] H' g' ∧ law01_CoinsSeen_l1 n r6 r17 m6 v = some r) (n := n) 0 (.k (.k (.k .nil))) ⟨(hS.keep [] rfl).up (by omega), hM⟩ ?_
         rintro v21 m6 H g6 ⟨hS, hM⟩
         obtain _ | m6 := m6
         ·exact nomatch (show none = some _ from hM)
         change wpA _ _ _ _ (Fr.of [(9, .sl .no 1 (r6.1.map cI)), (13, .sl .no 1 (r17.1.map cI)), (15, .i v21)]) _ _
         replace hS : St (· < g) H0 [] H g6 := hS
         replace hM : law01_CoinsSeen_l1_b n r6 r17 (law01_CoinsSeen_l1 n r6 r17 m6) v21 = some r := hM
         refine r_seq ?_
         refine r_seq ?_
         refine r_region (n := 4) rfl ?_
         refine o_move (v := .i v21) (by decide) rfl ?_
         refine o_move (v := .sl .no 1 (r6.1.map cI)) (by decide) rfl ?_
         refine o_len (n := r6.1.length) (by decide) rfl (List.length_map _) ty_isl22 ?_
         refine o_int (v := .b (decide (v21 < (r6.1.length : Int)))) (by decide) rfl rfl rfl ?_
         refine run_nil ?_
         refine w_next [(9, .sl .no 1 (r6.1.map cI)), (13, .sl .no 1 (r17.1.map cI)), (15, .i v21), (128, .b (decide (v21 < (r6.1.length : Int))))] (.k (.k (.k (.k .nil)))) ?_
         rcases Bool.eq_false_or_eq_true (decide (v21 < (r6.1.length : Int))) with hb22 | hb22
         ·replace hM := ifT hM hb22
          refine w_condT (e := (decide (v21 < (r6.1.length : Int)))) rfl hb22 ?_
          refine r_skip ?_
          refine w_next [(9, .sl .no 1 (r6.1.map cI)), (13, .sl .no 1 (r17.1.map cI)), (15, .i v21)] (.k (.k (.k .nil))) ?_
          refine r_seq ?_
          refine r_block ?_
          refine r_seq ?_
          refine r_region (n := 7) rfl ?_
          refine o_move (v := .sl .no 1 (r17.1.map cI)) (by decide) rfl ?_
          refine o_move (v := .sl .no 1 (r6.1.map cI)) (by decide) rfl ?_
          refine o_move (v := .i v21) (by decide) rfl ?_
          obtain ⟨x23, hx23, hM⟩ := bindE hM
          refine o_index (xs := r6.1) (f := cI) (z := v21) (u := x23) (by decide) rfl rfl ty_es22 hx23 ?_
          refine o_loadE (v := .i x23) (by decide) rfl (part_one ty_agg3 ty_sc3 rfl) ?_
          obtain ⟨r24, hr24, hM⟩ := bindE hM
          refine o_call (bs := [.sl .no 1 (r17.1.map cI), .i x23]) (by decide) rfl rfl ((W_ref01_In hr24).le (.k (.k .nil))) ?_
          refine o_not (e := r24) (by decide) rfl ?_
          refine run_nil ?_
          refine w_next [(9, .sl .no 1 (r6.1.map cI)), (13, .sl .no 1 (r17.1.map cI)), (15, .i v21), (137, .b (!r24))] (.k (.k (.k (.k .nil)))) ?_
          rcases Bool.eq_false_or_eq_true (!r24) with hb25 | hb25
          ·replace hM := ifT hM hb25
           refine w_condT (e := (!r24)) rfl hb25 ?_
           refine r_seq ?_
           refine r_region (n := 1) rfl ?_
           refine o_assign (v := .b false) (by decide) rfl ?_
           refine run_nil ?_
           refine w_next [(6, .b false)] (.k .nil) ?_
           refine r_ret ?_
           refine r_blk_ret ?_
           refine r_then_ret ?_
           refine w_round_ret ?_
           refine r_blk_ret ?_
           refine w_goto_ret ?_
           refine w_end (x := .b false) (f := fun r => .b r) (.inr rfl) ?_ (.refl _) (Option.some.inj hM) hS
           exact (res_one (res_tmp (x := .b false) rfl))
          ·replace hM := ifF hM hb25
           refine w_condF (e := (!r24)) rfl hb25 ?_
           refine r_skip ?_
           refine r_blk_normal ?_
           refine w_next [(9, .sl .no 1 (r6.1.map cI)), (13, .sl .no 1 (r17.1.map cI)), (15, .i v21)] (.k (.k (.k .nil))) ?_
           refine r_region (n := 3) rfl ?_
           refine o_move (v := .i v21) (by decide) rfl ?_
           refine o_int (v := .i (w64 (v21 + 1))) (by decide) rfl rfl rfl ?_
           refine o_assign (v := .i (w64 (v21 + 1))) (by decide) rfl ?_
           refine run_nil ?_
           exact w_round (w64 (v21 + 1)) (Nat.lt_succ_self _) (.k (.k (.k .nil))) ⟨(hS.keep [] rfl).up (by omega), hM⟩
         ·replace hM := ifF hM hb22
          refine w_condF (e := (decide (v21 < (r6.1.length : Int)))) rfl hb22 ?_
          refine r_exit ?_
          refine r_then_exit ?_
          refine w_round_exit ?_
          refine r_blk_exit ?_
          exact w_goto () .nil ⟨(hS.keep [] rfl).up (by omega), hM⟩
      ·refine r_region (n := 7) rfl ?_
       refine o_move (v := .i r17.2) (by decide) rfl ?_
       refine o_int (v := .b (r17.2 != 0)) (by decide) rfl rfl rfl ?_
       refine o_move (v := .b (r17.2 != 0)) (by decide) rfl ?_
       rcases Bool.eq_false_or_eq_true (r17.2 != 0) with hb26 | hb26
       ·replace hM := ifT hM hb26
        refine o_guardN (j := 2) (e := (r17.2 != 0)) (want := false) (by decide) rfl hb26 ?_
        refine o_guardN (j := 2) (e := (r17.2 != 0)) (want := false) (by decide) rfl hb26 ?_
        refine o_guardN (j := 2) (e := (r17.2 != 0)) (want := false) (by decide) rfl hb26 ?_
        refine o_pickT (v := .b true) (e := (r17.2 != 0)) (by decide) rfl hb26 rfl ?_
        refine run_nil ?_
        exact w_goto true (.k (.k (.k .nil))) ⟨(hS.keep [] rfl).up (by omega), hM⟩
       ·replace hM := ifF hM hb26
        refine o_guardY (j := 2) (e := (r17.2 != 0)) (want := false) rfl hb26 ?_
        refine o_move (v := .sl .no 1 (r17.1.map cI)) (by decide) rfl ?_
        refine o_guardY (j := 2) (e := (r17.2 != 0)) (want := false) rfl hb26 ?_
        refine o_len (n := r17.1.length) (by decide) rfl (List.length_map _) ty_isl22 ?_
        refine o_guardY (j := 2) (e := (r17.2 != 0)) (want := false) rfl hb26 ?_
        refine o_int (v := .b (decide ((r17.1.length : Int) > 200))) (by decide) rfl rfl rfl ?_
        refine o_pickF (v := .b (decide ((r17.1.length : Int) > 200))) (e := (r17.2 != 0)) (by decide) rfl hb26 rfl ?_
        refine run_nil ?_
        exact w_goto (decide ((r17.1.length : Int) > 200)) (.k (.k (.k .nil))) ⟨(hS.keep [] rfl).up (by omega), hM⟩
   ·refine r_region (n := 35) rfl ?_
    refine o_move (v := .i r6.2) (by decide) rfl ?_
    refine o_int (v := .b (r6.2 != 0)) (by decide) rfl rfl rfl ?_
    refine o_move (v := .b (r6.2 != 0)) (by decide) rfl ?_
    rcases Bool.eq_false_or_eq_true (r6.2 != 0) with hb27 | hb27
    ·replace hM := ifT hM hb27
     refine o_guardN (j := 2) (e := (r6.2 != 0)) (want := false) (by decide) rfl hb27 ?_
     refine o_guardN (j := 2) (e := (r6.2 != 0)) (want := false) (by decide) rfl hb27 ?_
     refine o_pickT (v := .b true) (e := (r6.2 != 0)) (by decide) rfl hb27 rfl ?_
     refine o_move (v := .b true) (by decide) rfl ?_
     refine o_guardN (j := 6) (e := true) (want := false) (by decide) rfl rfl ?_
     refine o_guardN (j := 6) (e := true) (want := false) (by decide) rfl rfl ?_
     refine o_guardN (j := 6) (e := true) (want := false) (by decide) rfl rfl ?_
     refine o_pickT (v := .b true) (e := true) (by decide) rfl rfl rfl ?_
     refine o_move (v := .b true) (by decide) rfl ?_
     refine o_guardN (j := 11) (e := true) (want := false) (by decide) rfl rfl ?_
     refine o_guardN (j := 11) (e := true) (want := false) (by decide) rfl rfl ?_
     refine o_guardN (j := 11) (e := true) (want := false) (by decide) rfl rfl ?_
     refine o_pickT (v := .b true) (e := true) (by decide) rfl rfl rfl ?_
     refine o_move (v := .b true) (by decide) rfl ?_
     refine o_guardN (j := 16) (e := true) (want := false) (by decide) rfl rfl ?_
     refine o_guardN (j := 16) (e := true) (want := false) (by decide) rfl rfl ?_
     refine o_guardN (j := 16) (e := true) (want := false) (by decide) rfl rfl ?_
     refine o_guardN (j := 16) (e := true) (want := false) (by decide) rfl rfl ?_
     refine o_pickT (v := .b true) (e := true) (by decide) rfl rfl rfl ?_
     refine o_move (v := .b true) (by decide) rfl ?_
     refine o_guardN (j := 22) (e := true) (want := false) (by decide) rfl rfl ?_
     refine o_guardN (j := 22) (e := true) (want := false) (by decide) rfl rfl ?_
     refine o_guardN (j := 22) (e := true) (want := false) (by decide) rfl rfl ?_
     refine o_guardN (j := 22) (e := true) (want := false) (by decide) rfl rfl ?_
     refine o_pickT (v := .b true) (e := true) (by decide) rfl rfl rfl ?_
     refine o_move (v := .b true) (by decide) rfl ?_
     refine o_guardN (j := 28) (e := true) (want := false) (by decide) rfl rfl ?_
     refine o_guardN (j := 28) (e := true) (want := false) (by decide) rfl rfl ?_
     refine o_guardN (j := 28) (e := true) (want := false) (by decide) rfl rfl ?_
     refine o_guardN (j := 28) (e := true) (want := false) (by decide) rfl rfl ?_
     refine o_guardN (j := 28) (e := true) (want := false) (by decide) rfl rfl ?_
     refine o_pickT (v := .b true) (e := true) (by decide) rfl rfl rfl ?_
     refine run_nil ?_
     exact w_goto true (.k (.k (.k (.k (.k .nil))))) ⟨(hS.keep [] rfl).up (by omega), hM⟩
    ·replace hM := ifF hM hb27
     refine o_guardY (j := 2) (e := (r6.2 != 0)) (want := false) rfl hb27 ?_
     refine o_move (v := .i r8.2) (by decide) rfl ?_
     refine o_guardY (j := 2) (e := (r6.2 != 0)) (want := false) rfl hb27 ?_
     refine o_int (v := .b (r8.2 != 0)) (by decide) rfl rfl rfl ?_
     refine o_pickF (v := .b (r8.2 != 0)) (e := (r6.2 != 0)) (by decide) rfl hb27 rfl ?_
     refine o_move (v := .b (r8.2 != 0)) (by decide) rfl ?_
     rcases Bool.eq_false_or_eq_true (r8.2 != 0) with hb28 | hb28
     ·replace hM := ifT hM hb28
      refine o_guardN (j := 6) (e := (r8.2 != 0)) (want := false) (by decide) rfl hb28 ?_
      refine o_guardN (j := 6) (e := (r8.2 != 0)) (want := false) (by decide) rfl hb28 ?_
      refine o_guardN (j := 6) (e := (r8.2 != 0)) (want := false) (by decide) rfl hb28 ?_
      refine o_pickT (v := .b true) (e := (r8.2 != 0)) (by decide) rfl hb28 rfl ?_
      refine o_move (v := .b true) (by decide) rfl ?_
      refine o_guardN (j := 11) (e := true) (want := false) (by decide) rfl rfl ?_
      refine o_guardN (j := 11) (e := true) (want := false) (by decide) rfl rfl ?_
      refine o_guardN (j := 11) (e := true) (want := false) (by decide) rfl rfl ?_
      refine o_pickT (v := .b true) (e := true) (by decide) rfl rfl rfl ?_
      refine o_move (v := .b true) (by decide) rfl ?_
      refine o_guardN (j := 16) (e := true) (want := false) (by decide) rfl rfl ?_
      refine o_guardN (j := 16) (e := true) (want := false) (by decide) rfl rfl ?_
      refine o_guardN (j := 16) (e := true) (want := false) (by decide) rfl rfl ?_
      refine o_guardN (j := 16) (e := true) (want := false) (by decide) rfl rfl ?_
      refine o_pickT (v := .b true) (e := true) (by decide) rfl rfl rfl ?_
      refine o_move (v := .b true) (by decide) rfl ?_
      refine o_guardN (j := 22) (e := true) (want := false) (by decide) rfl rfl ?_
      refine o_guardN (j := 22) (e := true) (want := false) (by decide) rfl rfl ?_
      refine o_guardN (j := 22) (e := true) (want := false) (by decide) rfl rfl ?_
      refine o_guardN (j := 22) (e := true) (want := false) (by decide) rfl rfl ?_
      refine o_pickT (v := .b true) (e := true) (by decide) rfl rfl rfl ?_
      refine o_move (v := .b true) (by decide) rfl ?_
      refine o_guardN (j := 28) (e := true) (want := false) (by decide) rfl rfl ?_
      refine o_guardN (j := 28) (e := true) (want := false) (by decide) rfl rfl ?_
      refine o_guardN (j := 28) (e := true) (want := false) (by decide) rfl rfl ?_
      refine o_guardN (j := 28) (e := true) (want := false) (by decide) rfl rfl ?_
      refine o_guardN (j := 28) (e := true) (want := false) (by decide) rfl rfl ?_
      refine o_pickT (v := .b true) (e := true) (by decide) rfl rfl rfl ?_
      refine run_nil ?_
      exact w_goto true (.k (.k (.k (.k (.k .nil))))) ⟨(hS.keep [] rfl).up (by omega), hM⟩
     ·replace hM := ifF hM hb28
      refine o_guardY (j := 6) (e := (r8.2 != 0)) (want := false) rfl hb28 ?_
      refine o_move (v := .sl .no 1 (r6.1.map cI)) (by decide) rfl ?_
      refine o_guardY (j := 6) (e := (r8.2 != 0)) (want := false) rfl hb28 ?_
      refine o_len (n := r6.1.length) (by decide) rfl (List.length_map _) ty_isl22 ?_
      refine o_guardY (j := 6) (e := (r8.2 != 0)) (want := false) rfl hb28 ?_
      refine o_int (v := .b (decide ((r6.1.length : Int) > 200))) (by decide) rfl rfl rfl ?_
      refine o_pickF (v := .b (decide ((r6.1.length : Int) > 200))) (e := (r8.2 != 0)) (by decide) rfl hb28 rfl ?_
      refine o_move (v := .b (decide ((r6.1.length : Int) > 200))) (by decide) rfl ?_
      rcases Bool.eq_false_or_eq_true (decide ((r6.1.length : Int) > 200)) with hb29 | hb29
      ·replace hM := ifT hM hb29
       refine o_guardN (j := 11) (e := (decide ((r6.1.length : Int) > 200))) (want := false) (by decide) rfl hb29 ?_
       refine o_guardN (j := 11) (e := (decide ((r6.1.length : Int) > 200))) (want := false) (by decide) rfl hb29 ?_
       refine o_guardN (j := 11) (e := (decide ((r6.1.length : Int) > 200))) (want := false) (by decide) rfl hb29 ?_
       refine o_pickT (v := .b true) (e := (decide ((r6.1.length : Int) > 200))) (by decide) rfl hb29 rfl ?_
       refine o_move (v := .b true) (by decide) rfl ?_
       refine o_guardN (j := 16) (e := true) (want := false) (by decide) rfl rfl ?_
       refine o_guardN (j := 16) (e := true) (want := false) (by decide) rfl rfl ?_
       refine o_guardN (j := 16) (e := true) (want := false) (by decide) rfl rfl ?_
       refine o_guardN (j := 16) (e := true) (want := false) (by decide) rfl rfl ?_
       refine o_pickT (v := .b true) (e := true) (by decide) rfl rfl rfl ?_
       refine o_move (v := .b true) (by decide) rfl ?_
       refine o_guardN (j := 22) (e := true) (want := false) (by decide) rfl rfl ?_
       refine o_guardN (j := 22) (e := true) (want := false) (by decide) rfl rfl ?_
       refine o_guardN (j := 22) (e := true) (want := false) (by decide) rfl rfl ?_
       refine o_guardN (j := 22) (e := true) (want := false) (by decide) rfl rfl ?_
       refine o_pickT (v := .b true) (e := true) (by decide) rfl rfl rfl ?_
       refine o_move (v := .b true) (by decide) rfl ?_
       refine o_guardN (j := 28) (e := true) (want := false) (by decide) rfl rfl ?_
       refine o_guardN (j := 28) (e := true) (want := false) (by decide) rfl rfl ?_
       refine o_guardN (j := 28) (e := true) (want := false) (by decide) rfl rfl ?_
       refine o_guardN (j := 28) (e := true) (want := false) (by decide) rfl rfl ?_
       refine o_guardN (j := 28) (e := true) (want := false) (by decide) rfl rfl ?_
       refine o_pickT (v := .b true) (e := true) (by decide) rfl rfl rfl ?_
       refine run_nil ?_
       exact w_goto true (.k (.k (.k (.k (.k .nil))))) ⟨(hS.keep [] rfl).up (by omega), hM⟩
      ·replace hM := ifF hM hb29
       refine o_guardY (j := 11) (e := (decide ((r6.1.length : Int) > 200))) (want := false) rfl hb29 ?_
       refine o_move (v := .sl .no 1 (r8.1.map cI)) (by decide) rfl ?_
       refine o_guardY (j := 11) (e := (decide ((r6.1.length : Int) > 200))) (want := false) rfl hb29 ?_
       refine o_len (n := r8.1.length) (by decide) rfl (List.length_map _) ty_isl22 ?_
       refine o_guardY (j := 11) (e := (decide ((r6.1.length : Int) > 200))) (want := false) rfl hb29 ?_
       refine o_int (v := .b (decide ((r8.1.length : Int) > 200))) (by decide) rfl rfl rfl ?_
       refine o_pickF (v := .b (decide ((r8.1.length : Int) > 200))) (e := (decide ((r6.1.length : Int) > 200))) (by decide) rfl hb29 rfl ?_
       refine o_move (v := .b (decide ((r8.1.length : Int) > 200))) (by decide) rfl ?_
       rcases Bool.eq_false_or_eq_true (decide ((r8.1.length : Int) > 200)) with hb30 | hb30
       ·replace hM := ifT hM hb30
        refine o_guardN (j := 16) (e := (decide ((r8.1.length : Int) > 200))) (want := false) (by decide) rfl hb30 ?_
        refine o_guardN (j := 16) (e := (decide ((r8.1.length : Int) > 200))) (want := false) (by decide) rfl hb30 ?_
        refine o_guardN (j := 16) (e := (decide ((r8.1.length : Int) > 200))) (want := false) (by decide) rfl hb30 ?_
        refine o_guardN (j := 16) (e := (decide ((r8.1.length : Int) > 200))) (want := false) (by decide) rfl hb30 ?_
        refine o_pickT (v := .b true) (e := (decide ((r8.1.length : Int) > 200))) (by decide) rfl hb30 rfl ?_
        refine o_move (v := .b true) (by decide) rfl ?_
        refine o_guardN (j := 22) (e := true) (want := false) (by decide) rfl rfl ?_
        refine o_guardN (j := 22) (e := true) (want := false) (by decide) rfl rfl ?_
        refine o_guardN (j := 22) (e := true) (want := false) (by decide) rfl rfl ?_
        refine o_guardN (j := 22) (e := true) (want := false) (by decide) rfl rfl ?_
        refine o_pickT (v := .b true) (e := true) (by decide) rfl rfl rfl ?_
        refine o_move (v := .b true) (by decide) rfl ?_
        refine o_guardN (j := 28) (e := true) (want := false) (by decide) rfl rfl ?_
        refine o_guardN (j := 28) (e := true) (want := false) (by decide) rfl rfl ?_
        refine o_guardN (j := 28) (e := true) (want := false) (by decide) rfl rfl ?_
        refine o_guardN (j := 28) (e := true) (want := false) (by decide) rfl rfl ?_
        refine o_guardN (j := 28) (e := true) (want := false) (by decide) rfl rfl ?_
        refine o_pickT (v := .b true) (e := true) (by decide) rfl rfl rfl ?_
        refine run_nil ?_
        exact w_goto true (.k (.k (.k (.k (.k .nil))))) ⟨(hS.keep [] rfl).up (by omega), hM⟩
       ·replace hM := ifF hM hb30
        refine o_guardY (j := 16) (e := (decide ((r8.1.length : Int) > 200))) (want := false) rfl hb30 ?_
        refine o_move (v := .sl .no 1 (r6.1.map cI)) (by decide) rfl ?_
        refine o_guardY (j := 16) (e := (decide ((r8.1.length : Int) > 200))) (want := false) rfl hb30 ?_
        refine o_move (v := .i a1) (by decide) rfl ?_
        refine o_guardY (j := 16) (e := (decide ((r8.1.length : Int) > 200))) (want := false) rfl hb30 ?_
        obtain ⟨r31, hr31, hM⟩ := bindE hM
        refine o_call (bs := [.sl .no 1 (r6.1.map cI), .i a1]) (by decide) rfl rfl ((W_ref01_In hr31).le (.k (.k .nil))) ?_
        refine o_guardY (j := 16) (e := (decide ((r8.1.length : Int) > 200))) (want := false) rfl hb30 ?_
        refine o_not (e := r31) (by decide) rfl ?_
        refine o_pickF (v := .b (!r31)) (e := (decide ((r8.1.length : Int) > 200))) (by decide) rfl hb30 rfl ?_
        refine o_move (v := .b (!r31)) (by decide) rfl ?_
        rcases Bool.eq_false_or_eq_true (!r31) with hb32 | hb32
        ·replace hM := ifT hM hb32
         refine o_guardN (j := 22) (e := (!r31)) (want := false) (by decide) rfl hb32 ?_
         refine o_guardN (j := 22) (e := (!r31)) (want := false) (by decide) rfl hb32 ?_
         refine o_guardN (j := 22) (e := (!r31)) (want := false) (by decide) rfl hb32 ?_
         refine o_guardN (j := 22) (e := (!r31)) (want := false) (by decide) rfl hb32 ?_
         refine o_pickT (v := .b true) (e := (!r31)) (by decide) rfl hb32 rfl ?_
         refine o_move (v := .b true) (by decide) rfl ?_
         refine o_guardN (j := 28) (e := true) (want := false) (by decide) rfl rfl ?_
         refine o_guardN (j := 28) (e := true) (want := false) (by decide) rfl rfl ?_
         refine o_guardN (j := 28) (e := true) (want := false) (by decide) rfl rfl ?_
         refine o_guardN (j := 28) (e := true) (want := false) (by decide) rfl rfl ?_
         refine o_guardN (j := 28) (e := true) (want := false) (by decide) rfl rfl ?_
         refine o_pickT (v := .b true) (e := true) (by decide) rfl rfl rfl ?_
         refine run_nil ?_
         exact w_goto true (.k (.k (.k (.k (.k .nil))))) ⟨(hS.keep [] rfl).up (by omega), hM⟩
        ·replace hM := ifF hM hb32
         refine o_guardY (j := 22) (e := (!r31)) (want := false) rfl hb32 ?_
         refine o_move (v := .sl .no 1 (r8.1.map cI)) (by decide) rfl ?_
         refine o_guardY (j := 22) (e := (!r31)) (want := false) rfl hb32 ?_
         refine o_move (v := .i r4.2) (by decide) rfl ?_
         refine o_guardY (j := 22) (e := (!r31)) (want := false) rfl hb32 ?_
         obtain ⟨r33, hr33, hM⟩ := bindE hM
         refine o_call (bs := [.sl .no 1 (r8.1.map cI), .i r4.2]) (by decide) rfl rfl ((W_ref01_In hr33).le (.k (.k .nil))) ?_
         refine o_guardY (j := 22) (e := (!r31)) (want := false) rfl hb32 ?_
         refine o_not (e := r33) (by decide) rfl ?_
         refine o_pickF (v := .b (!r33)) (e := (!r31)) (by decide) rfl hb32 rfl ?_
         refine o_move (v := .b (!r33)) (by decide) rfl ?_
         rcases Bool.eq_false_or_eq_true (!r33) with hb34 | hb34
         ·replace hM := ifT hM hb34
          refine o_guardN (j := 28) (e := (!r33)) (want := false) (by decide) rfl hb34 ?_
          refine o_guardN (j := 28) (e := (!r33)) (want := false) (by decide) rfl hb34 ?_
          refine o_guardN (j := 28) (e := (!r33)) (want := false) (by decide) rfl hb34 ?_
          refine o_guardN (j := 28) (e := (!r33)) (want := false) (by decide) rfl hb34 ?_
          refine o_guardN (j := 28) (e := (!r33)) (want := false) (by decide) rfl hb34 ?_
          refine o_pickT (v := .b true) (e := (!r33)) (by decide) rfl hb34 rfl ?_
          refine run_nil ?_
          exact w_goto true (.k (.k (.k (.k (.k .nil))))) ⟨(hS.keep [] rfl).up (by omega), hM⟩
         ·replace hM := ifF hM hb34
          refine o_guardY (j := 28) (e := (!r33)) (want := false) rfl hb34 ?_
          refine o_move (v := .sl .no 1 (r8.1.map cI)) (by decide) rfl ?_
          refine o_guardY (j := 28) (e := (!r33)) (want := false) rfl hb34 ?_
          refine o_len (n := r8.1.length) (by decide) rfl (List.length_map _) ty_isl22 ?_
          refine o_guardY (j := 28) (e := (!r33)) (want := false) rfl hb34 ?_
          refine o_move (v := .sl .no 1 (r6.1.map cI)) (by decide) rfl ?_
          refine o_guardY (j := 28) (e := (!r33)) (want := false) rfl hb34 ?_
          refine o_len (n := r6.1.length) (by decide) rfl (List.length_map _) ty_isl22 ?_
          refine o_guardY (j := 28) (e := (!r33)) (want := false) rfl hb34 ?_
          refine o_int (v := .b (decide ((r8.1.length : Int) > (r6.1.length : Int)))) (by decide) rfl rfl rfl ?_
          refine o_pickF (v := .b (decide ((r8.1.length : Int) > (r6.1.length : Int)))) (e := (!r33)) (by decide) rfl hb34 rfl ?_
          refine run_nil ?_
          exact w_goto (decide ((r8.1.length : Int) > (r6.1.length : Int))) (.k (.k (.k (.k (.k .nil))))) ⟨(hS.keep [] rfl).up (by omega), hM⟩
 ·refine r_region (n := 20) rfl ?_
  refine o_loadE (v := .agg [.i a0.Round, .sl .no 1 (a0.Notches.map cI), .sl .no 1 (a0.Coins.map cI)]) (by decide) rfl (part_agg ty_agg24 (Nat.le_of_ble_eq_true rfl) rfl) ?_
  obtain ⟨r35, hr35, hM⟩ := bindE hM
  refine o_call (bs := [.agg [.i a0.Round, .sl .no 1 (a0.Notches.map cI), .sl .no 1 (a0.Coins.map cI)]]) (by decide) rfl rfl ((W_law01_isWheel hr35).le (.k .nil)) ?_
  refine o_not (e := r35) (by decide) rfl ?_
  refine o_move (v := .b (!r35)) (by decide) rfl ?_
  rcases Bool.eq_false_or_eq_true (!r35) with hb36 | hb36
  ·replace hM := ifT hM hb36
   refine o_guardN (j := 3) (e := (!r35)) (want := false) (by decide) rfl hb36 ?_
   refine o_guardN (j := 3) (e := (!r35)) (want := false) (by decide) rfl hb36 ?_
   refine o_guardN (j := 3) (e := (!r35)) (want := false) (by decide) rfl hb36 ?_
   refine o_guardN (j := 3) (e := (!r35)) (want := false) (by decide) rfl hb36 ?_
   refine o_pickT (v := .b true) (e := (!r35)) (by decide) rfl hb36 rfl ?_
   refine o_move (v := .b true) (by decide) rfl ?_
   refine o_guardN (j := 9) (e := true) (want := false) (by decide) rfl rfl ?_
   refine o_guardN (j := 9) (e := true) (want := false) (by decide) rfl rfl ?_
   refine o_guardN (j := 9) (e := true) (want := false) (by decide) rfl rfl ?_
   refine o_pickT (v := .b true) (e := true) (by decide) rfl rfl rfl ?_
   refine o_move (v := .b true) (by decide) rfl ?_
   refine o_guardN (j := 14) (e := true) (want := false) (by decide) rfl rfl ?_
   refine o_guardN (j := 14) (e := true) (want := false) (by decide) rfl rfl ?_
   refine o_guardN (j := 14) (e := true) (want := false) (by decide) rfl rfl ?_
   refine o_guardN (j := 14) (e := true) (want := false) (by decide) rfl rfl ?_
   refine o_pickT (v := .b true) (e := true) (by decide) rfl rfl rfl ?_
   refine run_nil ?_
   exact w_goto true (.k (.k (.k (.k .nil)))) ⟨(hS.keep [] rfl).up (by omega), hM⟩
  ·replace hM := ifF hM hb36
   refine o_guardY (j := 3) (e := (!r35)) (want := false) rfl hb36 ?_
   refine o_loadE (v := .agg [.i a0.Round, .sl .no 1 (a0.Notches.map cI), .sl .no 1 (a0.Coins.map cI)]) (by decide) rfl (part_agg ty_agg24 (Nat.le_of_ble_eq_true rfl) rfl) ?_
   refine o_guardY (j := 3) (e := (!r35)) (want := false) rfl hb36 ?_
   refine o_move (v := .i a1) (by decide) rfl ?_
   refine o_guardY (j := 3) (e := (!r35)) (want := false) rfl hb36 ?_
   obtain ⟨r37, hr37, hM⟩ := bindE hM
   refine o_call (bs := [.agg [.i a0.Round, .sl .no 1 (a0.Notches.map cI), .sl .no 1 (a0.Coins.map cI)], .i a1]) (by decide) rfl rfl ((W_ref01_IsPlace hr37).le (.k (.k .nil))) ?_
   refine o_guardY (j := 3) (e := (!r35)) (want := false) rfl hb36 ?_
   refine o_not (e := r37) (by decide) rfl ?_
   refine o_pickF (v := .b (!r37)) (e := (!r35)) (by decide) rfl hb36 rfl ?_
   refine o_move (v := .b (!r37)) (by decide) rfl ?_
   rcases Bool.eq_false_or_eq_true (!r37) with hb38 | hb38
   ·replace hM := ifT hM hb38
    refine o_guardN (j := 9) (e := (!r37)) (want := false) (by decide) rfl hb38 ?_
    refine o_guardN (j := 9) (e := (!r37)) (want := false) (by decide) rfl hb38 ?_
    refine o_guardN (j := 9) (e := (!r37)) (want := false) (by decide) rfl hb38 ?_
    refine o_pickT (v := .b true) (e := (!r37)) (by decide) rfl hb38 rfl ?_
    refine o_move (v := .b true) (by decide) rfl ?_
    refine o_guardN (j := 14) (e := true) (want := false) (by decide) rfl rfl ?_
    refine o_guardN (j := 14) (e := true) (want := false) (by decide) rfl rfl ?_
    refine o_guardN (j := 14) (e := true) (want := false) (by decide) rfl rfl ?_
    refine o_guardN (j := 14) (e := true) (want := false) (by decide) rfl rfl ?_
    refine o_pickT (v := .b true) (e := true) (by decide) rfl rfl rfl ?_
    refine run_nil ?_
    exact w_goto true (.k (.k (.k (.k .nil)))) ⟨(hS.keep [] rfl).up (by omega), hM⟩
   ·replace hM := ifF hM hb38
    refine o_guardY (j := 9) (e := (!r37)) (want := false) rfl hb38 ?_
    refine o_move (v := .sl .no 1 (a2.map cI)) (by decide) rfl ?_
    refine o_guardY (j := 9) (e := (!r37)) (want := false) rfl hb38 ?_
    refine o_len (n := a2.length) (by decide) rfl (List.length_map _) ty_isl22 ?_
    refine o_guardY (j := 9) (e := (!r37)) (want := false) rfl hb38 ?_
    refine o_int (v := .b (decide ((a2.length : Int) > 7))) (by decide) rfl rfl rfl ?_
    refine o_pickF (v := .b (decide ((a2.length : Int) > 7))) (e := (!r37)) (by decide) rfl hb38 rfl ?_
    refine o_move (v := .b (decide ((a2.length : Int) > 7))) (by decide) rfl ?_
    rcases Bool.eq_false_or_eq_true (decide ((a2.length : Int) > 7)) with hb39 | hb39
    ·replace hM := ifT hM hb39
     refine o_guardN (j := 14) (e := (decide ((a2.length : Int) > 7))) (want := false) (by decide) rfl hb39 ?_
     refine o_guardN (j := 14) (e := (decide ((a2.length : Int) > 7))) (want := false) (by decide) rfl hb39 ?_
     refine o_guardN (j := 14) (e := (decide ((a2.length : Int) > 7))) (want := false) (by decide) rfl hb39 ?_
     refine o_guardN (j := 14) (e := (decide ((a2.length : Int) > 7))) (want := false) (by decide) rfl hb39 ?_
     refine o_pickT (v := .b true) (e := (decide ((a2.length : Int) > 7))) (by decide) rfl hb39 rfl ?_
     refine run_nil ?_
     exact w_goto true (.k (.k (.k (.k .nil)))) ⟨(hS.keep [] rfl).up (by omega), hM⟩
    ·replace hM := ifF hM hb39
     refine o_guardY (j := 14) (e := (decide ((a2.length : Int) > 7))) (want := false) rfl hb39 ?_
     refine o_loadE (v := .agg [.i a0.Round, .sl .no 1 (a0.Notches.map cI), .sl .no 1 (a0.Coins.map cI)]) (by decide) rfl (part_agg ty_agg24 (Nat.le_of_ble_eq_true rfl) rfl) ?_
     refine o_guardY (j := 14) (e := (decide ((a2.length : Int) > 7))) (want := false) rfl hb39 ?_
     refine o_move (v := .sl .no 1 (a2.map cI)) (by decide) rfl ?_
     refine o_guardY (j := 14) (e := (decide ((a2.length : Int) > 7))) (want := false) rfl hb39 ?_
     obtain ⟨r40, hr40, hM⟩ := bindE hM
     refine o_call (bs := [.agg [.i a0.Round, .sl .no 1 (a0.Notches.map cI), .sl .no 1 (a0.Coins.map cI)], .sl .no 1 (a2.map cI), .i 0]) (by decide) rfl rfl ((W_ref01_AreKinds hr40).le (.k (.k (.k .nil)))) ?_
     refine o_guardY (j := 14) (e := (decide ((a2.length : Int) > 7))) (want := false) rfl hb39 ?_
     refine o_not (e := r40) (by decide) rfl ?_
     refine o_pickF (v := .b (!r40)) (e := (decide ((a2.length : Int) > 7))) (by decide) rfl hb39 rfl ?_
     refine run_nil ?_
     exact w_goto (!r40) (.k (.k (.k (.k .nil)))) ⟨(hS.keep [] rfl).up (by omega), hM⟩
end Go.Proofs.Ytapcibbbmeomkaa
