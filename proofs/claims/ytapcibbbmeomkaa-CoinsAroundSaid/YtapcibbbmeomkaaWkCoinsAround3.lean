/-
  The code returns what the functions say (printed by gen.py).
  Conditions: none.
-/
import Derived.Test.YtapcibbbmeomkaaWkCoinsAround2
import Derived.Test.YtapcibbbmeomkaaSh
set_option linter.all false
namespace Go.Proofs.Ytapcibbbmeomkaa
open Go Go.AM Go.Law
set_option linter.unusedVariables false
set_option maxRecDepth 4000
set_option maxHeartbeats 4000000
theorem W_ref01_Rising {n : Nat} {a0 : List Int} {a1 : Int} {a2 : Int} {r : Bool} (hM : ref01_Rising n a0 a1 a2 = some r) : PureSat Try.prog 73 [.sl .no 1 (a0.map cI), .i a1, .i a2] (.b r) := by
 refine pure_of_wp mixed Try.func73 rfl (by decide) Try.ntmps73 (by simp) ?pure fun H0 g hf => ?_
 case pure => exact .v _
 rw [frame0_of]
 change wpA _ _ _ _ (Fr.of [(0, .sl .no 1 (a0.map cI)), (1, .i a1), (2, .i a2)]) H0 g
 have hS := St.start hf
 refine r_seq ?_
 refine r_region (n := 1) rfl ?_
 refine o_assign (v := .b false) (by decide) rfl ?_
 refine run_nil ?_
 refine w_next [(0, .sl .no 1 (a0.map cI)), (1, .i a1), (2, .i a2)] (.k (.k (.k .nil))) ?_
 refine w_join (J := Unit) (fun j => []) (fun j H' g' => St (· < g) H0 [] H' g' ∧ ref01_Rising_j1 = some r) ?_ ?_
 ·rintro _ H g1 ⟨hS, hM⟩
  change wpA _ _ _ _ (Fr.of []) _ _
  replace hS : St (· < g) H0 [] H g1 := hS
  replace hM : ref01_Rising_j1 = some r := hM
  refine r_seq ?_
  refine r_region (n := 1) rfl ?_
  refine o_assign (v := .b true) (by decide) rfl ?_
  refine run_nil ?_
  refine w_next [(6, .b true)] (.k .nil) ?_
  refine r_ret ?_
  refine w_end (x := .b true) (f := fun r => .b r) (.inr rfl) ?_ (.refl _) (Option.some.inj hM) hS
  exact (res_one (res_tmp (x := .b true) rfl))
 ·refine r_seq ?_
  refine r_region (n := 1) rfl ?_
  refine o_assign (v := .i 0) (by decide) rfl ?_
  refine run_nil ?_
  refine w_next [(0, .sl .no 1 (a0.map cI)), (1, .i a1), (2, .i a2), (7, .i 0)] (.k (.k (.k (.k .nil)))) ?_
  refine r_block ?_
  refine w_loop (V := Int) (fun v => [(0, .sl .no 1 (a0.map cI)), (1, .i a1), (2, .i a2), (7, .i v)]) (fun v m2 H' g' => St (· < g) H0 [] H' g' ∧ ref01_Rising_l1 a0 a1 a2 m2 v = some r) (n := n) 0 (.k (.k (.k (.k .nil)))) ⟨(hS.keep [] rfl).up (by omega), hM⟩ ?_
  rintro v1 m2 H g2 ⟨hS, hM⟩
  obtain _ | m2 := m2
  ·exact nomatch (show none = some _ from hM)
  change wpA _ _ _ _ (Fr.of [(0, .sl .no 1 (a0.map cI)), (1, .i a1), (2, .i a2), (7, .i v1)]) _ _
  replace hS : St (· < g) H0 [] H g2 := hS
  replace hM : ref01_Rising_l1_b a0 a1 a2 (ref01_Rising_l1 a0 a1 a2 m2) v1 = some r := hM
  refine r_seq ?_
  refine r_seq ?_
  refine r_region (n := 4) rfl ?_
  refine o_move (v := .i v1) (by decide) rfl ?_
  refine o_move (v := .sl .no 1 (a0.map cI)) (by decide) rfl ?_
  refine o_len (n := a0.length) (by decide) rfl (List.length_map _) ty_isl22 ?_
  refine o_int (v := .b (decide (v1 < (a0.length : Int)))) (by decide) rfl rfl rfl ?_
  refine run_nil ?_
  refine w_next [(0, .sl .no 1 (a0.map cI)), (1, .i a1), (2, .i a2), (7, .i v1), (11, .b (decide (v1 < (a0.length : Int))))] (.k (.k (.k (.k (.k .nil))))) ?_
  rcases Bool.eq_false_or_eq_true (decide (v1 < (a0.length : Int))) with hb2 | hb2
  ·replace hM := ifT hM hb2
   refine w_condT (e := (decide (v1 < (a0.length : Int)))) rfl hb2 ?_
   refine r_skip ?_
   refine w_next [(0, .sl .no 1 (a0.map cI)), (1, .i a1), (2, .i a2), (7, .i v1)] (.k (.k (.k (.k .nil)))) ?_
   refine r_seq ?_
   refine r_block ?_
   refine w_join (J := Bool) (fun j => [(0, .sl .no 1 (a0.map cI)), (1, .i a1), (2, .i a2), (7, .i v1), (37, .b j)]) (fun j H' g' => St (· < g) H0 [] H' g' ∧ ref01_Rising_j2 (ref01_Rising_l1 a0 a1 a2 m2) v1 j = some r) ?_ ?_
   ·rintro v3 H g3 ⟨hS, hM⟩
    change wpA _ _ _ _ (Fr.of [(0, .sl .no 1 (a0.map cI)), (1, .i a1), (2, .i a2), (7, .i v1), (37, .b v3)]) _ _
    replace hS : St (· < g) H0 [] H g3 := hS
    replace hM : ref01_Rising_j2 (ref01_Rising_l1 a0 a1 a2 m2) v1 v3 = some r := hM
    rcases Bool.eq_false_or_eq_true v3 with hb4 | hb4
    ·replace hM := ifT hM hb4
     refine w_condT (e := v3) rfl hb4 ?_
     refine r_seq ?_
     refine r_region (n := 1) rfl ?_
     refine o_assign (v := .b false) (by decide) rfl ?_
     refine run_nil ?_
     refine w_next [(6, .b false)] (.k .nil) ?_
     refine r_ret ?_
     refine r_blk_ret ?_
     refine r_then_ret ?_
     refine w_round_ret ?_
     refine r_blk_ret ?_
     refine w_goto_ret ?_
     refine w_end (x := .b false) (f := fun r => .b r) (.inr rfl) ?_ (.refl _) (Option.some.inj hM) hS
     exact (res_one (res_tmp (x := .b false) rfl))
    ·replace hM := ifF hM hb4
     refine w_condF (e := v3) rfl hb4 ?_
     refine r_skip ?_
     refine r_blk_normal ?_
     refine w_next [(0, .sl .no 1 (a0.map cI)), (1, .i a1), (2, .i a2), (7, .i v1)] (.k (.k (.k (.k .nil)))) ?_
     refine r_region (n := 3) rfl ?_
     refine o_move (v := .i v1) (by decide) rfl ?_
     refine o_int (v := .i (w64 (v1 + 1))) (by decide) rfl rfl rfl ?_
     refine o_assign (v := .i (w64 (v1 + 1))) (by decide) rfl ?_
     refine run_nil ?_
     exact w_round (w64 (v1 + 1)) (Nat.lt_succ_self _) (.k (.k (.k (.k .nil)))) ⟨(hS.keep [] rfl).up (by omega), hM⟩
   ·have hS0 := hS
    refine r_draw (n := 24) rfl (by kernel_rfl) ?_
    refine o_move (v := .sl .no 1 (a0.map cI)) (by decide) rfl ?_
    refine o_move (v := .i v1) (by decide) rfl ?_
    obtain ⟨x5, hx5, hM⟩ := bindE hM
    refine o_index (xs := a0) (f := cI) (z := v1) (u := x5) (by decide) rfl rfl ty_es22 hx5 ?_
    refine o_loadE (v := .i x5) (by decide) rfl (part_one ty_agg3 ty_sc3 rfl) ?_
    refine o_move (v := .i a1) (by decide) rfl ?_
    refine o_move (v := .i a2) (by decide) rfl ?_
    obtain ⟨r6, hr6, hM⟩ := bindE hM
    refine o_call (bs := [.i x5, .i a1, .i a2]) (by decide) rfl rfl ((W_ref01_Within hr6).le (.k (.k (.k .nil)))) ?_
    refine o_not (e := r6) (by decide) rfl ?_
    refine o_move (v := .b (!r6)) (by decide) rfl ?_
    rcases Bool.eq_false_or_eq_true (!r6) with hb7 | hb7
    ·replace hM := ifT hM hb7
     refine o_guardN (j := 8) (e := (!r6)) (want := false) (by decide) rfl hb7 ?_
     refine o_guardN (j := 8) (e := (!r6)) (want := false) (by decide) rfl hb7 ?_
     refine o_guardN (j := 8) (e := (!r6)) (want := false) (by decide) rfl hb7 ?_
     refine o_guardU (j := 11) (by decide) rfl ?_
     refine o_guardU (j := 11) (by decide) rfl ?_
     refine o_guardU (j := 11) (by decide) rfl ?_
     refine o_guardU (j := 11) (by decide) rfl ?_
     refine o_guardU (j := 11) (by decide) rfl ?_
     refine o_guardU (j := 11) (by decide) rfl ?_
     refine o_guardU (j := 11) (by decide) rfl ?_
     refine o_guardU (j := 11) (by decide) rfl ?_
     refine o_guardU (j := 11) (by decide) rfl ?_
     refine o_guardU (j := 11) (by decide) rfl ?_
     refine o_guardN (j := 8) (e := (!r6)) (want := false) (by decide) rfl hb7 ?_
     refine o_pickT (v := .b true) (e := (!r6)) (by decide) rfl hb7 rfl ?_
     refine run_nil ?_
     exact w_goto true (.k (.k (.k (.k (.k .nil))))) ⟨(hS.keep [] rfl).up (by omega), hM⟩
    ·replace hM := ifF hM hb7
     refine o_guardY (j := 8) (e := (!r6)) (want := false) rfl hb7 ?_
     refine o_move (v := .i v1) (by decide) rfl ?_
     refine o_guardY (j := 8) (e := (!r6)) (want := false) rfl hb7 ?_
     refine o_int (v := .b (decide (v1 > 0))) (by decide) rfl rfl rfl ?_
     refine o_guardY (j := 8) (e := (!r6)) (want := false) rfl hb7 ?_
     refine o_move (v := .b (decide (v1 > 0))) (by decide) rfl ?_
     rcases Bool.eq_false_or_eq_true (decide (v1 > 0)) with hb8 | hb8
     ·replace hM := ifT hM hb8
      refine o_guardY (j := 11) (e := (decide (v1 > 0))) (want := true) rfl hb8 ?_
      refine o_move (v := .sl .no 1 (a0.map cI)) (by decide) rfl ?_
      refine o_guardY (j := 11) (e := (decide (v1 > 0))) (want := true) rfl hb8 ?_
      refine o_move (v := .i v1) (by decide) rfl ?_
      refine o_guardY (j := 11) (e := (decide (v1 > 0))) (want := true) rfl hb8 ?_
      obtain ⟨x9, hx9, hM⟩ := bindE hM
      refine o_index (xs := a0) (f := cI) (z := v1) (u := x9) (by decide) rfl rfl ty_es22 hx9 ?_
      refine o_guardY (j := 11) (e := (decide (v1 > 0))) (want := true) rfl hb8 ?_
      refine o_loadE (v := .i x9) (by decide) rfl (part_one ty_agg3 ty_sc3 rfl) ?_
      refine o_guardY (j := 11) (e := (decide (v1 > 0))) (want := true) rfl hb8 ?_
      refine o_move (v := .sl .no 1 (a0.map cI)) (by decide) rfl ?_
      refine o_guardY (j := 11) (e := (decide (v1 > 0))) (want := true) rfl hb8 ?_
      refine o_move (v := .i v1) (by decide) rfl ?_
      refine o_guardY (j := 11) (e := (decide (v1 > 0))) (want := true) rfl hb8 ?_
      refine o_int (v := .i (w64 (v1 - 1))) (by decide) rfl rfl rfl ?_
      refine o_guardY (j := 11) (e := (decide (v1 > 0))) (want := true) rfl hb8 ?_
      obtain ⟨x10, hx10, hM⟩ := bindE hM
      refine o_index (xs := a0) (f := cI) (z := (w64 (v1 - 1))) (u := x10) (by decide) rfl rfl ty_es22 hx10 ?_
      refine o_guardY (j := 11) (e := (decide (v1 > 0))) (want := true) rfl hb8 ?_
      refine o_loadE (v := .i x10) (by decide) rfl (part_one ty_agg3 ty_sc3 rfl) ?_
      refine o_guardY (j := 11) (e := (decide (v1 > 0))) (want := true) rfl hb8 ?_
      refine o_int (v := .b (decide (x9 ≤ x10))) (by decide) rfl rfl rfl ?_
      refine o_guardY (j := 8) (e := (!r6)) (want := false) rfl hb7 ?_
      refine o_pickT (v := .b (decide (x9 ≤ x10))) (e := (decide (v1 > 0))) (by decide) rfl hb8 rfl ?_
      refine o_pickF (v := .b (decide (x9 ≤ x10))) (e := (!r6)) (by decide) rfl hb7 rfl ?_
      refine run_nil ?_
      exact w_goto (decide (x9 ≤ x10)) (.k (.k (.k (.k (.k .nil))))) ⟨(hS.keep [] rfl).up (by omega), hM⟩
     ·replace hM := ifF hM hb8
      refine o_guardN (j := 11) (e := (decide (v1 > 0))) (want := true) (by decide) rfl hb8 ?_
      refine o_guardN (j := 11) (e := (decide (v1 > 0))) (want := true) (by decide) rfl hb8 ?_
      refine o_guardN (j := 11) (e := (decide (v1 > 0))) (want := true) (by decide) rfl hb8 ?_
      refine o_guardN (j := 11) (e := (decide (v1 > 0))) (want := true) (by decide) rfl hb8 ?_
      refine o_guardN (j := 11) (e := (decide (v1 > 0))) (want := true) (by decide) rfl hb8 ?_
      refine o_guardN (j := 11) (e := (decide (v1 > 0))) (want := true) (by decide) rfl hb8 ?_
      refine o_guardN (j := 11) (e := (decide (v1 > 0))) (want := true) (by decide) rfl hb8 ?_
      refine o_guardN (j := 11) (e := (decide (v1 > 0))) (want := true) (by decide) rfl hb8 ?_
      refine o_guardN (j := 11) (e := (decide (v1 > 0))) (want := true) (by decide) rfl hb8 ?_
      refine o_guardN (j := 11) (e := (decide (v1 > 0))) (want := true) (by decide) rfl hb8 ?_
      refine o_guardY (j := 8) (e := (!r6)) (want := false) rfl hb7 ?_
      refine o_pickF (v := .b false) (e := (decide (v1 > 0))) (by decide) rfl hb8 rfl ?_
      refine o_pickF (v := .b false) (e := (!r6)) (by decide) rfl hb7 rfl ?_
      refine run_nil ?_
      exact w_goto false (.k (.k (.k (.k (.k .nil))))) ⟨(hS.keep [] rfl).up (by omega), hM⟩
  ·replace hM := ifF hM hb2
   refine w_condF (e := (decide (v1 < (a0.length : Int)))) rfl hb2 ?_
   refine r_exit ?_
   refine r_then_exit ?_
   refine w_round_exit ?_
   refine r_blk_exit ?_
   exact w_goto () .nil ⟨(hS.keep [] rfl).up (by omega), hM⟩
theorem W_ref01_Check {n : Nat} {a0 : Wheel} {r : Int} (hM : ref01_Check n a0 = some r) : PureSat Try.prog 39 [.agg [.i a0.Round, .sl .no 1 (a0.Notches.map cI), .sl .no 1 (a0.Coins.map cI)]] (.i r) := by
 refine pure_of_wp mixed Try.func39 rfl (by decide) Try.ntmps39 (by simp) ?pure fun H0 g hf => ?_
 case pure => exact .v _
 rw [frame0_of]
 change wpA _ _ _ _ (Fr.of [(0, .agg [.i a0.Round, .sl .no 1 (a0.Notches.map cI), .sl .no 1 (a0.Coins.map cI)])]) H0 g
 have hS := St.start hf
 refine r_seq ?_
 refine r_region (n := 2) rfl ?_
 refine o_box (v := .agg [.i a0.Round, .sl .no 1 (a0.Notches.map cI), .sl .no 1 (a0.Coins.map cI)]) (cs := [.i a0.Round, .sl .no 1 (a0.Notches.map cI), .sl .no 1 (a0.Coins.map cI)]) hS (by decide) rfl rfl (by omega) fun H hS => ?_
 refine o_assign (v := .i 0) (by decide) rfl ?_
 refine run_nil ?_
 refine w_iceE (L' := []) 0 1 hS rfl rfl rfl fun H hS => ?_
 refine w_next [(1, .ep [.i a0.Round, .sl .no 1 (a0.Notches.map cI), .sl .no 1 (a0.Coins.map cI)])] (.k .nil) ?_
 refine r_seq ?_
 refine w_join (J := Bool) (fun j => [(32, .b j)]) (fun j H' g' => St (· < g) H0 [] H' g' ∧ ref01_Check_j1 j = some r) ?_ ?_
 ·rintro v1 H g1 ⟨hS, hM⟩
  change wpA _ _ _ _ (Fr.of [(32, .b v1)]) _ _
  replace hS : St (· < g) H0 [] H g1 := hS
  replace hM : ref01_Check_j1 v1 = some r := hM
  rcases Bool.eq_false_or_eq_true v1 with hb2 | hb2
  ·replace hM := ifT hM hb2
   refine w_condT (e := v1) rfl hb2 ?_
   refine r_seq ?_
   refine r_region (n := 1) rfl ?_
   refine o_assign (v := .i 10) (by decide) rfl ?_
   refine run_nil ?_
   refine w_next [(2, .i 10)] (.k .nil) ?_
   refine r_ret ?_
   refine r_then_ret ?_
   refine w_end (x := .i 10) (f := fun r => .i r) (.inr rfl) ?_ (.refl _) (Option.some.inj hM) hS
   exact (res_one (res_tmp (x := .i 10) rfl))
  ·replace hM := ifF hM hb2
   refine w_condF (e := v1) rfl hb2 ?_
   refine r_skip ?_
   refine w_next [] .nil ?_
   refine r_seq ?_
   refine r_region (n := 1) rfl ?_
   refine o_assign (v := .i 0) (by decide) rfl ?_
   refine run_nil ?_
   refine w_next [(2, .i 0)] (.k .nil) ?_
   refine r_ret ?_
   refine w_end (x := .i 0) (f := fun r => .i r) (.inr rfl) ?_ (.refl _) (Option.some.inj hM) hS
   exact (res_one (res_tmp (x := .i 0) rfl))
 ·refine r_region (n := 30) rfl ?_
  refine o_fieldE (cs := [.i a0.Round, .sl .no 1 (a0.Notches.map cI), .sl .no 1 (a0.Coins.map cI)]) (by decide) ty_fo24_0 rfl ?_
  refine o_loadE (v := .i a0.Round) (by decide) rfl (part_one ty_agg3 ty_sc3 rfl) ?_
  obtain ⟨r3, hr3, hM⟩ := bindE hM
  refine o_call (bs := [.i a0.Round, .i 1, .i 200]) (by decide) rfl rfl ((W_ref01_Within hr3).le (.k (.k (.k .nil)))) ?_
  refine o_not (e := r3) (by decide) rfl ?_
  refine o_move (v := .b (!r3)) (by decide) rfl ?_
  rcases Bool.eq_false_or_eq_true (!r3) with hb4 | hb4
  ·replace hM := ifT hM hb4
   refine o_guardN (j := 4) (e := (!r3)) (want := false) (by decide) rfl hb4 ?_
   refine o_guardN (j := 4) (e := (!r3)) (want := false) (by decide) rfl hb4 ?_
   refine o_guardN (j := 4) (e := (!r3)) (want := false) (by decide) rfl hb4 ?_
   refine o_guardN (j := 4) (e := (!r3)) (want := false) (by decide) rfl hb4 ?_
   refine o_pickT (v := .b true) (e := (!r3)) (by decide) rfl hb4 rfl ?_
   refine o_move (v := .b true) (by decide) rfl ?_
   refine o_guardN (j := 10) (e := true) (want := false) (by decide) rfl rfl ?_
   refine o_guardN (j := 10) (e := true) (want := false) (by decide) rfl rfl ?_
   refine o_guardN (j := 10) (e := true) (want := false) (by decide) rfl rfl ?_
   refine o_guardN (j := 10) (e := true) (want := false) (by decide) rfl rfl ?_
   refine o_guardN (j := 10) (e := true) (want := false) (by decide) rfl rfl ?_
   refine o_guardN (j := 10) (e := true) (want := false) (by decide) rfl rfl ?_
   refine o_pickT (v := .b true) (e := true) (by decide) rfl rfl rfl ?_
   refine o_move (v := .b true) (by decide) rfl ?_
   refine o_guardN (j := 18) (e := true) (want := false) (by decide) rfl rfl ?_
   refine o_guardN (j := 18) (e := true) (want := false) (by decide) rfl rfl ?_
   refine o_guardN (j := 18) (e := true) (want := false) (by decide) rfl rfl ?_
   refine o_guardN (j := 18) (e := true) (want := false) (by decide) rfl rfl ?_
   refine o_pickT (v := .b true) (e := true) (by decide) rfl rfl rfl ?_
   refine o_move (v := .b true) (by decide) rfl ?_
   refine o_guardN (j := 24) (e := true) (want := false) (by decide) rfl rfl ?_
   refine o_guardN (j := 24) (e := true) (want := false) (by decide) rfl rfl ?_
   refine o_guardN (j := 24) (e := true) (want := false) (by decide) rfl rfl ?_
   refine o_guardN (j := 24) (e := true) (want := false) (by decide) rfl rfl ?_
   refine o_pickT (v := .b true) (e := true) (by decide) rfl rfl rfl ?_
   refine run_nil ?_
   exact w_goto true (.k .nil) ⟨(hS.keep [] rfl).up (by omega), hM⟩
  ·replace hM := ifF hM hb4
   refine o_guardY (j := 4) (e := (!r3)) (want := false) rfl hb4 ?_
   refine o_fieldE (cs := [.i a0.Round, .sl .no 1 (a0.Notches.map cI), .sl .no 1 (a0.Coins.map cI)]) (by decide) ty_fo24_1 rfl ?_
   refine o_guardY (j := 4) (e := (!r3)) (want := false) rfl hb4 ?_
   refine o_loadE (v := .sl .no 1 (a0.Notches.map cI)) (by decide) rfl (part_one ty_agg22 ty_sc22 rfl) ?_
   refine o_guardY (j := 4) (e := (!r3)) (want := false) rfl hb4 ?_
   refine o_len (n := a0.Notches.length) (by decide) rfl (List.length_map _) ty_isl22 ?_
   refine o_guardY (j := 4) (e := (!r3)) (want := false) rfl hb4 ?_
   refine o_int (v := .b (decide ((a0.Notches.length : Int) > 12))) (by decide) rfl rfl rfl ?_
   refine o_pickF (v := .b (decide ((a0.Notches.length : Int) > 12))) (e := (!r3)) (by decide) rfl hb4 rfl ?_
   refine o_move (v := .b (decide ((a0.Notches.length : Int) > 12))) (by decide) rfl ?_
   rcases Bool.eq_false_or_eq_true (decide ((a0.Notches.length : Int) > 12)) with hb5 | hb5
   ·replace hM := ifT hM hb5
    refine o_guardN (j := 10) (e := (decide ((a0.Notches.length : Int) > 12))) (want := false) (by decide) rfl hb5 ?_
    refine o_guardN (j := 10) (e := (decide ((a0.Notches.length : Int) > 12))) (want := false) (by decide) rfl hb5 ?_
    refine o_guardN (j := 10) (e := (decide ((a0.Notches.length : Int) > 12))) (want := false) (by decide) rfl hb5 ?_
    refine o_guardN (j := 10) (e := (decide ((a0.Notches.length : Int) > 12))) (want := false) (by decide) rfl hb5 ?_
    refine o_guardN (j := 10) (e := (decide ((a0.Notches.length : Int) > 12))) (want := false) (by decide) rfl hb5 ?_
    refine o_guardN (j := 10) (e := (decide ((a0.Notches.length : Int) > 12))) (want := false) (by decide) rfl hb5 ?_
    refine o_pickT (v := .b true) (e := (decide ((a0.Notches.length : Int) > 12))) (by decide) rfl hb5 rfl ?_
    refine o_move (v := .b true) (by decide) rfl ?_
    refine o_guardN (j := 18) (e := true) (want := false) (by decide) rfl rfl ?_
    refine o_guardN (j := 18) (e := true) (want := false) (by decide) rfl rfl ?_
    refine o_guardN (j := 18) (e := true) (want := false) (by decide) rfl rfl ?_
    refine o_guardN (j := 18) (e := true) (want := false) (by decide) rfl rfl ?_
    refine o_pickT (v := .b true) (e := true) (by decide) rfl rfl rfl ?_
    refine o_move (v := .b true) (by decide) rfl ?_
    refine o_guardN (j := 24) (e := true) (want := false) (by decide) rfl rfl ?_
    refine o_guardN (j := 24) (e := true) (want := false) (by decide) rfl rfl ?_
    refine o_guardN (j := 24) (e := true) (want := false) (by decide) rfl rfl ?_
    refine o_guardN (j := 24) (e := true) (want := false) (by decide) rfl rfl ?_
    refine o_pickT (v := .b true) (e := true) (by decide) rfl rfl rfl ?_
    refine run_nil ?_
    exact w_goto true (.k .nil) ⟨(hS.keep [] rfl).up (by omega), hM⟩
   ·replace hM := ifF hM hb5
    refine o_guardY (j := 10) (e := (decide ((a0.Notches.length : Int) > 12))) (want := false) rfl hb5 ?_
    refine o_fieldE (cs := [.i a0.Round, .sl .no 1 (a0.Notches.map cI), .sl .no 1 (a0.Coins.map cI)]) (by decide) ty_fo24_1 rfl ?_
    refine o_guardY (j := 10) (e := (decide ((a0.Notches.length : Int) > 12))) (want := false) rfl hb5 ?_
    refine o_loadE (v := .sl .no 1 (a0.Notches.map cI)) (by decide) rfl (part_one ty_agg22 ty_sc22 rfl) ?_
    refine o_guardY (j := 10) (e := (decide ((a0.Notches.length : Int) > 12))) (want := false) rfl hb5 ?_
    refine o_fieldE (cs := [.i a0.Round, .sl .no 1 (a0.Notches.map cI), .sl .no 1 (a0.Coins.map cI)]) (by decide) ty_fo24_0 rfl ?_
    refine o_guardY (j := 10) (e := (decide ((a0.Notches.length : Int) > 12))) (want := false) rfl hb5 ?_
    refine o_loadE (v := .i a0.Round) (by decide) rfl (part_one ty_agg3 ty_sc3 rfl) ?_
    refine o_guardY (j := 10) (e := (decide ((a0.Notches.length : Int) > 12))) (want := false) rfl hb5 ?_
    obtain ⟨r6, hr6, hM⟩ := bindE hM
    refine o_call (bs := [.sl .no 1 (a0.Notches.map cI), .i 1, .i a0.Round]) (by decide) rfl rfl ((W_ref01_Rising hr6).le (.k (.k (.k .nil)))) ?_
    refine o_guardY (j := 10) (e := (decide ((a0.Notches.length : Int) > 12))) (want := false) rfl hb5 ?_
    refine o_not (e := r6) (by decide) rfl ?_
    refine o_pickF (v := .b (!r6)) (e := (decide ((a0.Notches.length : Int) > 12))) (by decide) rfl hb5 rfl ?_
    refine o_move (v := .b (!r6)) (by decide) rfl ?_
    rcases Bool.eq_false_or_eq_true (!r6) with hb7 | hb7
    ·replace hM := ifT hM hb7
     refine o_guardN (j := 18) (e := (!r6)) (want := false) (by decide) rfl hb7 ?_
     refine o_guardN (j := 18) (e := (!r6)) (want := false) (by decide) rfl hb7 ?_
     refine o_guardN (j := 18) (e := (!r6)) (want := false) (by decide) rfl hb7 ?_
     refine o_guardN (j := 18) (e := (!r6)) (want := false) (by decide) rfl hb7 ?_
     refine o_pickT (v := .b true) (e := (!r6)) (by decide) rfl hb7 rfl ?_
     refine o_move (v := .b true) (by decide) rfl ?_
     refine o_guardN (j := 24) (e := true) (want := false) (by decide) rfl rfl ?_
     refine o_guardN (j := 24) (e := true) (want := false) (by decide) rfl rfl ?_
     refine o_guardN (j := 24) (e := true) (want := false) (by decide) rfl rfl ?_
     refine o_guardN (j := 24) (e := true) (want := false) (by decide) rfl rfl ?_
     refine o_pickT (v := .b true) (e := true) (by decide) rfl rfl rfl ?_
     refine run_nil ?_
     exact w_goto true (.k .nil) ⟨(hS.keep [] rfl).up (by omega), hM⟩
    ·replace hM := ifF hM hb7
     refine o_guardY (j := 18) (e := (!r6)) (want := false) rfl hb7 ?_
     refine o_fieldE (cs := [.i a0.Round, .sl .no 1 (a0.Notches.map cI), .sl .no 1 (a0.Coins.map cI)]) (by decide) ty_fo24_2 rfl ?_
     refine o_guardY (j := 18) (e := (!r6)) (want := false) rfl hb7 ?_
     refine o_loadE (v := .sl .no 1 (a0.Coins.map cI)) (by decide) rfl (part_one ty_agg22 ty_sc22 rfl) ?_
     refine o_guardY (j := 18) (e := (!r6)) (want := false) rfl hb7 ?_
     refine o_len (n := a0.Coins.length) (by decide) rfl (List.length_map _) ty_isl22 ?_
     refine o_guardY (j := 18) (e := (!r6)) (want := false) rfl hb7 ?_
     refine o_int (v := .b (decide ((a0.Coins.length : Int) > 4))) (by decide) rfl rfl rfl ?_
     refine o_pickF (v := .b (decide ((a0.Coins.length : Int) > 4))) (e := (!r6)) (by decide) rfl hb7 rfl ?_
     refine o_move (v := .b (decide ((a0.Coins.length : Int) > 4))) (by decide) rfl ?_
     rcases Bool.eq_false_or_eq_true (decide ((a0.Coins.length : Int) > 4)) with hb8 | hb8
     ·replace hM := ifT hM hb8
      refine o_guardN (j := 24) (e := (decide ((a0.Coins.length : Int) > 4))) (want := false) (by decide) rfl hb8 ?_
      refine o_guardN (j := 24) (e := (decide ((a0.Coins.length : Int) > 4))) (want := false) (by decide) rfl hb8 ?_
      refine o_guardN (j := 24) (e := (decide ((a0.Coins.length : Int) > 4))) (want := false) (by decide) rfl hb8 ?_
      refine o_guardN (j := 24) (e := (decide ((a0.Coins.length : Int) > 4))) (want := false) (by decide) rfl hb8 ?_
      refine o_pickT (v := .b true) (e := (decide ((a0.Coins.length : Int) > 4))) (by decide) rfl hb8 rfl ?_
      refine run_nil ?_
      exact w_goto true (.k .nil) ⟨(hS.keep [] rfl).up (by omega), hM⟩
     ·replace hM := ifF hM hb8
      refine o_guardY (j := 24) (e := (decide ((a0.Coins.length : Int) > 4))) (want := false) rfl hb8 ?_
      refine o_fieldE (cs := [.i a0.Round, .sl .no 1 (a0.Notches.map cI), .sl .no 1 (a0.Coins.map cI)]) (by decide) ty_fo24_2 rfl ?_
      refine o_guardY (j := 24) (e := (decide ((a0.Coins.length : Int) > 4))) (want := false) rfl hb8 ?_
      refine o_loadE (v := .sl .no 1 (a0.Coins.map cI)) (by decide) rfl (part_one ty_agg22 ty_sc22 rfl) ?_
      refine o_guardY (j := 24) (e := (decide ((a0.Coins.length : Int) > 4))) (want := false) rfl hb8 ?_
      obtain ⟨r9, hr9, hM⟩ := bindE hM
      refine o_call (bs := [.sl .no 1 (a0.Coins.map cI), .i 1, .i 100]) (by decide) rfl rfl ((W_ref01_Rising hr9).le (.k (.k (.k .nil)))) ?_
      refine o_guardY (j := 24) (e := (decide ((a0.Coins.length : Int) > 4))) (want := false) rfl hb8 ?_
      refine o_not (e := r9) (by decide) rfl ?_
      refine o_pickF (v := .b (!r9)) (e := (decide ((a0.Coins.length : Int) > 4))) (by decide) rfl hb8 rfl ?_
      refine run_nil ?_
      exact w_goto (!r9) (.k .nil) ⟨(hS.keep [] rfl).up (by omega), hM⟩
theorem W_law01_isWheel {n : Nat} {a0 : Wheel} {r : Bool} (hM : law01_isWheel n a0 = some r) : PureSat Try.prog 22 [.agg [.i a0.Round, .sl .no 1 (a0.Notches.map cI), .sl .no 1 (a0.Coins.map cI)]] (.b r) := by
 refine pure_of_wp mixed Try.func22 rfl (by decide) Try.ntmps22 (by simp) ?pure fun H0 g hf => ?_
 case pure => exact .v _
 rw [frame0_of]
 change wpA _ _ _ _ (Fr.of [(0, .agg [.i a0.Round, .sl .no 1 (a0.Notches.map cI), .sl .no 1 (a0.Coins.map cI)])]) H0 g
 have hS := St.start hf
 refine r_seq ?_
 refine r_region (n := 2) rfl ?_
 refine o_box (v := .agg [.i a0.Round, .sl .no 1 (a0.Notches.map cI), .sl .no 1 (a0.Coins.map cI)]) (cs := [.i a0.Round, .sl .no 1 (a0.Notches.map cI), .sl .no 1 (a0.Coins.map cI)]) hS (by decide) rfl rfl (by omega) fun H hS => ?_
 refine o_assign (v := .b false) (by decide) rfl ?_
 refine run_nil ?_
 refine w_iceE (L' := []) 0 1 hS rfl rfl rfl fun H hS => ?_
 refine w_next [(1, .ep [.i a0.Round, .sl .no 1 (a0.Notches.map cI), .sl .no 1 (a0.Coins.map cI)])] (.k .nil) ?_
 refine w_join (J := Bool) (fun j => [(2, .b j)]) (fun j H' g' => St (· < g) H0 [] H' g' ∧ law01_isWheel_j1 j = some r) ?_ ?_
 ·rintro v1 H g1 ⟨hS, hM⟩
  change wpA _ _ _ _ (Fr.of [(2, .b v1)]) _ _
  replace hS : St (· < g) H0 [] H g1 := hS
  replace hM : law01_isWheel_j1 v1 = some r := hM
  refine r_ret ?_
  refine w_end (x := .b v1) (f := fun r => .b r) (.inr rfl) ?_ (.refl _) (Option.some.inj hM) hS
  exact (res_one (res_tmp (x := .b v1) rfl))
 ·refine r_region (n := 9) rfl ?_
  refine o_loadE (v := .agg [.i a0.Round, .sl .no 1 (a0.Notches.map cI), .sl .no 1 (a0.Coins.map cI)]) (by decide) rfl (part_agg ty_agg24 (Nat.le_of_ble_eq_true rfl) rfl) ?_
  obtain ⟨r2, hr2, hM⟩ := bindE hM
  refine o_call (bs := [.agg [.i a0.Round, .sl .no 1 (a0.Notches.map cI), .sl .no 1 (a0.Coins.map cI)]]) (by decide) rfl rfl ((W_law01_far hr2).le (.k .nil)) ?_
  refine o_not (e := r2) (by decide) rfl ?_
  refine o_move (v := .b (!r2)) (by decide) rfl ?_
  rcases Bool.eq_false_or_eq_true (!r2) with hb3 | hb3
  ·replace hM := ifT hM hb3
   refine o_guardY (j := 3) (e := (!r2)) (want := true) rfl hb3 ?_
   refine o_loadE (v := .agg [.i a0.Round, .sl .no 1 (a0.Notches.map cI), .sl .no 1 (a0.Coins.map cI)]) (by decide) rfl (part_agg ty_agg24 (Nat.le_of_ble_eq_true rfl) rfl) ?_
   refine o_guardY (j := 3) (e := (!r2)) (want := true) rfl hb3 ?_
   obtain ⟨r4, hr4, hM⟩ := bindE hM
   refine o_call (bs := [.agg [.i a0.Round, .sl .no 1 (a0.Notches.map cI), .sl .no 1 (a0.Coins.map cI)]]) (by decide) rfl rfl ((W_ref01_Check hr4).le (.k .nil)) ?_
   refine o_guardY (j := 3) (e := (!r2)) (want := true) rfl hb3 ?_
   refine o_int (v := .b (r4 == 0)) (by decide) rfl rfl rfl ?_
   refine o_pickT (v := .b (r4 == 0)) (e := (!r2)) (by decide) rfl hb3 rfl ?_
   refine o_assign (v := .b (r4 == 0)) (by decide) rfl ?_
   refine run_nil ?_
   exact w_goto (r4 == 0) (.k .nil) ⟨(hS.keep [] rfl).up (by omega), hM⟩
  ·replace hM := ifF hM hb3
   refine o_guardN (j := 3) (e := (!r2)) (want := true) (by decide) rfl hb3 ?_
   refine o_guardN (j := 3) (e := (!r2)) (want := true) (by decide) rfl hb3 ?_
   refine o_guardN (j := 3) (e := (!r2)) (want := true) (by decide) rfl hb3 ?_
   refine o_pickF (v := .b false) (e := (!r2)) (by decide) rfl hb3 rfl ?_
   refine o_assign (v := .b false) (by decide) rfl ?_
   refine run_nil ?_
   exact w_goto false (.k .nil) ⟨(hS.keep [] rfl).up (by omega), hM⟩
theorem W_ref01_IsPlace {a0 : Wheel} {a1 : Int} {r : Bool} (hM : ref01_IsPlace a0 a1 = some r) : PureSat Try.prog 35 [.agg [.i a0.Round, .sl .no 1 (a0.Notches.map cI), .sl .no 1 (a0.Coins.map cI)], .i a1] (.b r) := by
 refine pure_of_wp mixed Try.func35 rfl (by decide) Try.ntmps35 (by simp) ?pure fun H0 g hf => ?_
 case pure => exact .v _
 rw [frame0_of]
 change wpA _ _ _ _ (Fr.of [(0, .agg [.i a0.Round, .sl .no 1 (a0.Notches.map cI), .sl .no 1 (a0.Coins.map cI)]), (1, .i a1)]) H0 g
 have hS := St.start hf
 refine r_seq ?_
 refine r_region (n := 2) rfl ?_
 refine o_box (v := .agg [.i a0.Round, .sl .no 1 (a0.Notches.map cI), .sl .no 1 (a0.Coins.map cI)]) (cs := [.i a0.Round, .sl .no 1 (a0.Notches.map cI), .sl .no 1 (a0.Coins.map cI)]) hS (by decide) rfl rfl (by omega) fun H hS => ?_
 refine o_assign (v := .b false) (by decide) rfl ?_
 refine run_nil ?_
 refine w_iceE (L' := []) 0 2 hS rfl rfl rfl fun H hS => ?_
 refine w_next [(1, .i a1), (2, .ep [.i a0.Round, .sl .no 1 (a0.Notches.map cI), .sl .no 1 (a0.Coins.map cI)])] (.k (.k .nil)) ?_
 refine r_seq ?_
 refine r_region (n := 6) rfl ?_
 refine o_move (v := .i a1) (by decide) rfl ?_
 refine o_fieldE (cs := [.i a0.Round, .sl .no 1 (a0.Notches.map cI), .sl .no 1 (a0.Coins.map cI)]) (by decide) ty_fo24_0 rfl ?_
 refine o_loadE (v := .i a0.Round) (by decide) rfl (part_one ty_agg3 ty_sc3 rfl) ?_
 refine o_int (v := .i (w64 (a0.Round - 1))) (by decide) rfl rfl rfl ?_
 obtain ⟨r1, hr1, hM⟩ := bindE hM
 refine o_call (bs := [.i a1, .i 0, .i (w64 (a0.Round - 1))]) (by decide) rfl rfl ((W_ref01_Within hr1).le (.k (.k (.k .nil)))) ?_
 refine o_assign (v := .b r1) (by decide) rfl ?_
 refine run_nil ?_
 refine w_next [(4, .b r1)] (.k .nil) ?_
 refine r_ret ?_
 refine w_end (x := .b r1) (f := fun r => .b r) (.inr rfl) ?_ (.refl _) (Option.some.inj hM) hS
 exact (res_one (res_tmp (x := .b r1) rfl))
theorem W_coins_Plays_c1 {n : Nat} {a0 : Wheel_} {a1 : Int} {a2 : List Int} {r : Bool} (hM : coins_Plays_c1 n a0 a1 a2 = some r) : PureSat Try.prog 80 [.agg [.i a0.Wheel.Round, .sl .no 1 (a0.Wheel.Notches.map cI), .sl .no 1 (a0.Wheel.Coins.map cI)], .ep [.i a1], .ep [.sl .no 1 (a2.map cI)]] (.b r) := by
 refine pure_of_wp mixed Try.func80 rfl (by decide) Try.ntmps80 (by simp) ?pure fun H0 g hf => ?_
 case pure => exact .v _
 rw [frame0_of]
 change wpA _ _ _ _ (Fr.of [(0, .agg [.i a0.Wheel.Round, .sl .no 1 (a0.Wheel.Notches.map cI), .sl .no 1 (a0.Wheel.Coins.map cI)]), (1, .ep [.i a1]), (2, .ep [.sl .no 1 (a2.map cI)])]) H0 g
 have hS := St.start hf
 refine r_seq ?_
 refine r_region (n := 2) rfl ?_
 refine o_box (v := .agg [.i a0.Wheel.Round, .sl .no 1 (a0.Wheel.Notches.map cI), .sl .no 1 (a0.Wheel.Coins.map cI)]) (cs := [.i a0.Wheel.Round, .sl .no 1 (a0.Wheel.Notches.map cI), .sl .no 1 (a0.Wheel.Coins.map cI)]) hS (by decide) rfl rfl (by omega) fun H hS => ?_
 refine o_assign (v := .b false) (by decide) rfl ?_
 refine run_nil ?_
 refine w_iceE (L' := []) 0 3 hS rfl rfl rfl fun H hS => ?_
 refine w_next [(1, .ep [.i a1]), (2, .ep [.sl .no 1 (a2.map cI)]), (3, .ep [.i a0.Wheel.Round, .sl .no 1 (a0.Wheel.Notches.map cI), .sl .no 1 (a0.Wheel.Coins.map cI)])] (.k (.k (.k .nil))) ?_
 refine w_join (J := Bool) (fun j => [(4, .b j)]) (fun j H' g' => St (· < g) H0 [] H' g' ∧ coins_Plays_c1_j1 j = some r) ?_ ?_
 ·rintro v1 H g1 ⟨hS, hM⟩
  change wpA _ _ _ _ (Fr.of [(4, .b v1)]) _ _
  replace hS : St (· < g) H0 [] H g1 := hS
  replace hM : coins_Plays_c1_j1 v1 = some r := hM
  refine r_ret ?_
  refine w_end (x := .b v1) (f := fun r => .b r) (.inr rfl) ?_ (.refl _) (Option.some.inj hM) hS
  exact (res_one (res_tmp (x := .b v1) rfl))
 ·refine r_region (n := 10) rfl ?_
  refine o_loadE (v := .agg [.i a0.Wheel.Round, .sl .no 1 (a0.Wheel.Notches.map cI), .sl .no 1 (a0.Wheel.Coins.map cI)]) (by decide) rfl (part_agg ty_agg71 (Nat.le_of_ble_eq_true rfl) rfl) ?_
  refine o_loadE (v := .i a1) (by decide) rfl (part_one ty_agg3 ty_sc3 rfl) ?_
  obtain ⟨r2, hr2, hM⟩ := bindE hM
  refine o_call (bs := [.agg [.i a0.Wheel.Round, .sl .no 1 (a0.Wheel.Notches.map cI), .sl .no 1 (a0.Wheel.Coins.map cI)], .i a1]) (by decide) rfl rfl ((W_coins_wheel_isPlace hr2).le (.k (.k .nil))) ?_
  refine o_move (v := .b r2) (by decide) rfl ?_
  rcases Bool.eq_false_or_eq_true r2 with hb3 | hb3
  ·replace hM := ifT hM hb3
   refine o_guardY (j := 3) (e := r2) (want := true) rfl hb3 ?_
   refine o_loadE (v := .sl .no 1 (a2.map cI)) (by decide) rfl (part_one ty_agg22 ty_sc22 rfl) ?_
   refine o_guardY (j := 3) (e := r2) (want := true) rfl hb3 ?_
   refine o_loadE (v := .agg [.i a0.Wheel.Round, .sl .no 1 (a0.Wheel.Notches.map cI), .sl .no 1 (a0.Wheel.Coins.map cI)]) (by decide) rfl (part_agg ty_agg71 (Nat.le_of_ble_eq_true rfl) rfl) ?_
   refine o_guardY (j := 3) (e := r2) (want := true) rfl hb3 ?_
   refine o_makeFunc (first := [.agg [.i a0.Wheel.Round, .sl .no 1 (a0.Wheel.Notches.map cI), .sl .no 1 (a0.Wheel.Coins.map cI)]]) (cap := []) (by decide) rfl rfl ?_
   refine o_guardY (j := 3) (e := r2) (want := true) rfl hb3 ?_
   obtain ⟨r4, hr4, hM⟩ := bindE hM
   refine o_call (bs := [.sl .no 1 (a2.map cI), .fn (.func 81) [.agg [.i a0.Wheel.Round, .sl .no 1 (a0.Wheel.Notches.map cI), .sl .no 1 (a0.Wheel.Coins.map cI)]] []]) (by decide) rfl rfl (pure_of_hsat ((W_coins_all_int (Lo := (fun (_ : Unit) => []))  (fun _ _ => kl_nil) (fun _ => List.nodup_nil) (fun _ => inb_nil) (aF := (fun (x0 : Int) (_ : Unit) => (coins_wheel_isKind a0 x0).map fun y => (y, ()))) (fun _ H hH => (.fn _ _ _ (ai_cons (show Go.AM.Pure _ from .agg _ (pl_cons (.v _) (pl_cons (.sl _ _ (pures_map (fun x => (pl_cons (.v _) pl_nil)))) (pl_cons (.sl _ _ (pures_map (fun x => (pl_cons (.v _) pl_nil)))) pl_nil)))).inH ai_nil) ai_nil)) rfl (fun h => csat_val (W_coins_wheel_isKind (pure_some h))) hr4).le (.k (.k .nil)))) ?_
   refine o_pickT (v := .b r4.1) (e := r2) (by decide) rfl hb3 rfl ?_
   refine o_assign (v := .b r4.1) (by decide) rfl ?_
   refine run_nil ?_
   exact w_goto r4.1 (.k .nil) ⟨(hS.keep [] rfl).up (by omega), hM⟩
  ·replace hM := ifF hM hb3
   refine o_guardN (j := 3) (e := r2) (want := true) (by decide) rfl hb3 ?_
   refine o_guardN (j := 3) (e := r2) (want := true) (by decide) rfl hb3 ?_
   refine o_guardN (j := 3) (e := r2) (want := true) (by decide) rfl hb3 ?_
   refine o_guardN (j := 3) (e := r2) (want := true) (by decide) rfl hb3 ?_
   refine o_pickF (v := .b false) (e := r2) (by decide) rfl hb3 rfl ?_
   refine o_assign (v := .b false) (by decide) rfl ?_
   refine run_nil ?_
   exact w_goto false (.k .nil) ⟨(hS.keep [] rfl).up (by omega), hM⟩
theorem W_coins_Plays {n : Nat} {a0 : Wheel} {a1 : Int} {a2 : List Int} {r : Int × Int} (hM : coins_Plays n a0 a1 a2 = some r) : PureSat Try.prog 42 [.agg [.i a0.Round, .sl .no 1 (a0.Notches.map cI), .sl .no 1 (a0.Coins.map cI)], .i a1, .sl .no 1 (a2.map cI)] (.tup [.i r.1, .i r.2]) := by
 refine pure_of_wp mixed Try.func42 rfl (by decide) Try.ntmps42 (by simp) ?pure fun H0 g hf => ?_
 case pure => exact .tup _ (pl_cons (.v _) (pl_cons (.v _) pl_nil))
 rw [frame0_of]
 change wpA _ _ _ _ (Fr.of [(0, .agg [.i a0.Round, .sl .no 1 (a0.Notches.map cI), .sl .no 1 (a0.Coins.map cI)]), (1, .i a1), (2, .sl .no 1 (a2.map cI))]) H0 g
 have hS := St.start hf
 refine r_seq ?_
 refine r_region (n := 5) rfl ?_
 refine o_box (v := .agg [.i a0.Round, .sl .no 1 (a0.Notches.map cI), .sl .no 1 (a0.Coins.map cI)]) (cs := [.i a0.Round, .sl .no 1 (a0.Notches.map cI), .sl .no 1 (a0.Coins.map cI)]) hS (by decide) rfl rfl (by omega) fun H hS => ?_
 refine o_box (v := .i a1) (cs := [.i a1]) hS (by decide) rfl rfl (by omega) fun H hS => ?_
 refine o_box (v := .sl .no 1 (a2.map cI)) (cs := [.sl .no 1 (a2.map cI)]) hS (by decide) rfl rfl (by omega) fun H hS => ?_
 refine o_assign (v := .i 0) (by decide) rfl ?_
 refine o_assign (v := .i 0) (by decide) rfl ?_
 refine run_nil ?_
 refine w_iceE (L' := [(g + 2, .cells [.sl .no 1 (a2.map cI)]), (g + 1, .cells [.i a1])]) 2 3 hS rfl rfl rfl fun H hS => ?_
 refine w_iceE (L' := [(g + 2, .cells [.sl .no 1 (a2.map cI)])]) 1 4 hS rfl rfl rfl fun H hS => ?_
 refine w_iceE (L' := []) 0 5 hS rfl rfl rfl fun H hS => ?_
 refine w_next [(3, .ep [.i a0.Round, .sl .no 1 (a0.Notches.map cI), .sl .no 1 (a0.Coins.map cI)]), (4, .ep [.i a1]), (5, .ep [.sl .no 1 (a2.map cI)])] (.k (.k (.k .nil))) ?_
 refine r_seq ?_
 refine r_region (n := 9) rfl ?_
 refine o_loadE (v := .agg [.i a0.Round, .sl .no 1 (a0.Notches.map cI), .sl .no 1 (a0.Coins.map cI)]) (by decide) rfl (part_agg ty_agg24 (Nat.le_of_ble_eq_true rfl) rfl) ?_
 refine o_makeFunc (first := []) (cap := [.ep [.i a1], .ep [.sl .no 1 (a2.map cI)]]) (by decide) rfl rfl ?_
 obtain ⟨r1, hr1, hM⟩ := bindE hM
 refine o_call (bs := [.agg [.i a0.Round, .sl .no 1 (a0.Notches.map cI), .sl .no 1 (a0.Coins.map cI)], .fn (.func 80) [] [.ep [.i a1], .ep [.sl .no 1 (a2.map cI)]]]) (by decide) rfl rfl (pure_of_hsat ((W_coins_open (Lo := (fun (_ : Unit) => []))  (fun _ _ => kl_nil) (fun _ => List.nodup_nil) (fun _ => inb_nil) (aF := (fun (x0 : Wheel_) (_ : Unit) => (coins_Plays_c1 n x0 a1 a2).map fun y => (y, ()))) (fun _ H hH => (.fn _ _ _ ai_nil (ai_cons (.ep _ (ai_cons (show Go.AM.Pure _ from .v _).inH ai_nil)) (ai_cons (.ep _ (ai_cons (show Go.AM.Pure _ from .sl _ _ (pures_map (fun x => (pl_cons (.v _) pl_nil)))).inH ai_nil)) ai_nil)))) rfl (fun h => csat_val (W_coins_Plays_c1 (pure_some h))) hr1).le (.k (.k .nil)))) ?_
 refine o_move (v := .tup [.agg [.i r1.1.1.Wheel.Round, .sl .no 1 (r1.1.1.Wheel.Notches.map cI), .sl .no 1 (r1.1.1.Wheel.Coins.map cI)], .i r1.1.2]) (by decide) rfl ?_
 refine o_extract (v := .agg [.i r1.1.1.Wheel.Round, .sl .no 1 (r1.1.1.Wheel.Notches.map cI), .sl .no 1 (r1.1.1.Wheel.Coins.map cI)]) (by decide) rfl rfl ?_
 refine o_extract (v := .i r1.1.2) (by decide) rfl rfl ?_
 refine o_alloc hS (by decide) ty_zero71 (by omega) fun H hS => ?_
 refine o_store (v := .agg [.i r1.1.1.Wheel.Round, .sl .no 1 (r1.1.1.Wheel.Notches.map cI), .sl .no 1 (r1.1.1.Wheel.Coins.map cI)]) (ns := [.i r1.1.1.Wheel.Round, .sl .no 1 (r1.1.1.Wheel.Notches.map cI), .sl .no 1 (r1.1.1.Wheel.Coins.map cI)]) (L' := [(g + 5 + 6, .cells [.i r1.1.1.Wheel.Round, .sl .no 1 (r1.1.1.Wheel.Notches.map cI), .sl .no 1 (r1.1.1.Wheel.Coins.map cI)])]) 0 hS rfl rfl .no rfl rfl ty_var71 (Nat.le_of_ble_eq_true rfl) rfl fun H hS => ?_
 refine o_assign (v := .i r1.1.2) (by decide) rfl ?_
 refine run_nil ?_
 refine w_iceE (L' := []) 0 8 hS rfl rfl rfl fun H hS => ?_
 refine w_next [(3, .ep [.i a0.Round, .sl .no 1 (a0.Notches.map cI), .sl .no 1 (a0.Coins.map cI)]), (4, .ep [.i a1]), (5, .ep [.sl .no 1 (a2.map cI)]), (8, .ep [.i r1.1.1.Wheel.Round, .sl .no 1 (r1.1.1.Wheel.Notches.map cI), .sl .no 1 (r1.1.1.Wheel.Coins.map cI)]), (9, .i r1.1.2)] (.k (.k (.k (.k (.k .nil))))) ?_
 refine r_seq ?_
 refine r_seq ?_
 refine r_region (n := 2) rfl ?_
 refine o_move (v := .i r1.1.2) (by decide) rfl ?_
 refine o_int (v := .b (r1.1.2 != 0)) (by decide) rfl rfl rfl ?_
 refine run_nil ?_
 refine w_next [(3, .ep [.i a0.Round, .sl .no 1 (a0.Notches.map cI), .sl .no 1 (a0.Coins.map cI)]), (4, .ep [.i a1]), (5, .ep [.sl .no 1 (a2.map cI)]), (8, .ep [.i r1.1.1.Wheel.Round, .sl .no 1 (r1.1.1.Wheel.Notches.map cI), .sl .no 1 (r1.1.1.Wheel.Coins.map cI)]), (9, .i r1.1.2), (22, .b (r1.1.2 != 0))] (.k (.k (.k (.k (.k (.k .nil)))))) ?_
 rcases Bool.eq_false_or_eq_true (r1.1.2 != 0) with hb2 | hb2
 ·replace hM := ifT hM hb2
  refine w_condT (e := (r1.1.2 != 0)) rfl hb2 ?_
  refine r_seq ?_
  refine r_region (n := 3) rfl ?_
  refine o_move (v := .i r1.1.2) (by decide) rfl ?_
  refine o_assign (v := .i 0) (by decide) rfl ?_
  refine o_assign (v := .i r1.1.2) (by decide) rfl ?_
  refine run_nil ?_
  refine w_next [(6, .i 0), (7, .i r1.1.2)] (.k (.k .nil)) ?_
  refine r_ret ?_
  refine r_then_ret ?_
  refine w_end (x := .tup [.i 0, .i r1.1.2]) (f := fun r => .tup [.i r.1, .i r.2]) (.inr rfl) ?_ (.refl _) (Option.some.inj hM) hS
  exact (res_two (res_tmp (x := .i 0) rfl) (res_tmp (x := .i r1.1.2) rfl))
 ·replace hM := ifF hM hb2
  refine w_condF (e := (r1.1.2 != 0)) rfl hb2 ?_
  refine r_skip ?_
  refine w_next [(3, .ep [.i a0.Round, .sl .no 1 (a0.Notches.map cI), .sl .no 1 (a0.Coins.map cI)]), (4, .ep [.i a1]), (5, .ep [.sl .no 1 (a2.map cI)]), (8, .ep [.i r1.1.1.Wheel.Round, .sl .no 1 (r1.1.1.Wheel.Notches.map cI), .sl .no 1 (r1.1.1.Wheel.Coins.map cI)])] (.k (.k (.k (.k .nil)))) ?_
  refine r_seq ?_
  refine r_region (n := 1) rfl ?_
  refine o_assign (v := .i 0) (by decide) rfl ?_
  refine run_nil ?_
  refine w_next [(3, .ep [.i a0.Round, .sl .no 1 (a0.Notches.map cI), .sl .no 1 (a0.Coins.map cI)]), (4, .ep [.i a1]), (5, .ep [.sl .no 1 (a2.map cI)]), (8, .ep [.i r1.1.1.Wheel.Round, .sl .no 1 (r1.1.1.Wheel.Notches.map cI), .sl .no 1 (r1.1.1.Wheel.Coins.map cI)]), (10, .i 0)] (.k (.k (.k (.k (.k .nil))))) ?_
  refine w_join (J := Int) (fun j => [(4, .ep [.i a1]), (8, .ep [.i r1.1.1.Wheel.Round, .sl .no 1 (r1.1.1.Wheel.Notches.map cI), .sl .no 1 (r1.1.1.Wheel.Coins.map cI)]), (10, .i j)]) (fun j H' g' => St (· < g) H0 [] H' g' ∧ coins_Plays_j1 n a1 r1 j = some r) ?_ ?_
  ·rintro v3 H g1 ⟨hS, hM⟩
   change wpA _ _ _ _ (Fr.of [(4, .ep [.i a1]), (8, .ep [.i r1.1.1.Wheel.Round, .sl .no 1 (r1.1.1.Wheel.Notches.map cI), .sl .no 1 (r1.1.1.Wheel.Coins.map cI)]), (10, .i v3)]) _ _
   replace hS : St (· < g) H0 [] H g1 := hS
   replace hM : coins_Plays_j1 n a1 r1 v3 = some r := hM
   refine r_seq ?_
   refine r_region (n := 9) rfl ?_
   refine o_loadE (v := .agg [.i r1.1.1.Wheel.Round, .sl .no 1 (r1.1.1.Wheel.Notches.map cI), .sl .no 1 (r1.1.1.Wheel.Coins.map cI)]) (by decide) rfl (part_agg ty_agg71 (Nat.le_of_ble_eq_true rfl) rfl) ?_
   refine o_loadE (v := .i a1) (by decide) rfl (part_one ty_agg3 ty_sc3 rfl) ?_
   refine o_move (v := .i v3) (by decide) rfl ?_
   obtain ⟨r4, hr4, hM⟩ := bindE hM
   refine o_call (bs := [.agg [.i r1.1.1.Wheel.Round, .sl .no 1 (r1.1.1.Wheel.Notches.map cI), .sl .no 1 (r1.1.1.Wheel.Coins.map cI)], .i a1, .i v3]) (by decide) rfl rfl ((W_coins_wheel_turn hr4).le (.k (.k (.k .nil)))) ?_
   refine o_move (v := .tup [.i r4.1, .i r4.2]) (by decide) rfl ?_
   refine o_extract (v := .i r4.1) (by decide) rfl rfl ?_
   refine o_extract (v := .i r4.2) (by decide) rfl rfl ?_
   refine o_assign (v := .i r4.1) (by decide) rfl ?_
   refine o_assign (v := .i r4.2) (by decide) rfl ?_
   refine run_nil ?_
   refine w_next [(14, .i r4.2)] (.k .nil) ?_
   refine r_seq ?_
   refine r_region (n := 3) rfl ?_
   refine o_move (v := .i r4.2) (by decide) rfl ?_
   refine o_assign (v := .i r4.2) (by decide) rfl ?_
   refine o_assign (v := .i 0) (by decide) rfl ?_
   refine run_nil ?_
   refine w_next [(6, .i r4.2), (7, .i 0)] (.k (.k .nil)) ?_
   refine r_ret ?_
   refine w_end (x := .tup [.i r4.2, .i 0]) (f := fun r => .tup [.i r.1, .i r.2]) (.inr rfl) ?_ (.refl _) (Option.some.inj hM) hS
   exact (res_two (res_tmp (x := .i r4.2) rfl) (res_tmp (x := .i 0) rfl))
  ·refine r_seq ?_
   refine r_region (n := 3) rfl ?_
   refine o_loadE (v := .sl .no 1 (a2.map cI)) (by decide) rfl (part_one ty_agg22 ty_sc22 rfl) ?_
   refine o_len (n := a2.length) (by decide) rfl (List.length_map _) ty_isl22 ?_
   refine o_move (v := .i 0) (by decide) rfl ?_
   refine run_nil ?_
   refine w_next [(3, .ep [.i a0.Round, .sl .no 1 (a0.Notches.map cI), .sl .no 1 (a0.Coins.map cI)]), (4, .ep [.i a1]), (8, .ep [.i r1.1.1.Wheel.Round, .sl .no 1 (r1.1.1.Wheel.Notches.map cI), .sl .no 1 (r1.1.1.Wheel.Coins.map cI)]), (10, .i 0), (24, .sl .no 1 (a2.map cI)), (25, .i (a2.length : Int)), (26, .i 0)] (.k (.k (.k (.k (.k (.k (.k .nil))))))) ?_
   refine r_block ?_
   refine w_loop (V := Int × Int) (fun v => [(3, .ep [.i a0.Round, .sl .no 1 (a0.Notches.map cI), .sl .no 1 (a0.Coins.map cI)]), (4, .ep [.i a1]), (8, .ep [.i r1.1.1.Wheel.Round, .sl .no 1 (r1.1.1.Wheel.Notches.map cI), .sl .no 1 (r1.1.1.Wheel.Coins.map cI)]), (10, .i v.1), (24, .sl .no 1 (a2.map cI)), (25, .i (a2.length : Int)), (26, .i v.2)]) (fun v m2 H' g' => St (· < g) H0 [] H' g' ∧ coins_Plays_l1 n a0 a1 a2 r1 m2 v.1 v.2 = some r) (n := n) (0, 0) (.k (.k (.k (.k (.k (.k (.k .nil))))))) ⟨(hS.keep [] rfl).up (by omega), hM⟩ ?_
   rintro ⟨v5, v6⟩ m2 H g2 ⟨hS, hM⟩
   obtain _ | m2 := m2
   ·exact nomatch (show none = some _ from hM)
   change wpA _ _ _ _ (Fr.of [(3, .ep [.i a0.Round, .sl .no 1 (a0.Notches.map cI), .sl .no 1 (a0.Coins.map cI)]), (4, .ep [.i a1]), (8, .ep [.i r1.1.1.Wheel.Round, .sl .no 1 (r1.1.1.Wheel.Notches.map cI), .sl .no 1 (r1.1.1.Wheel.Coins.map cI)]), (10, .i v5), (24, .sl .no 1 (a2.map cI)), (25, .i (a2.length : Int)), (26, .i v6)]) _ _
   replace hS : St (· < g) H0 [] H g2 := hS
   replace hM : coins_Plays_l1_b n a0 a1 a2 r1 (coins_Plays_l1 n a0 a1 a2 r1 m2) v5 v6 = some r := hM
   refine r_seq ?_
   refine r_region (n := 1) rfl ?_
   refine o_int (v := .b (decide (v6 < (a2.length : Int)))) (by decide) rfl rfl rfl ?_
   refine run_nil ?_
   refine w_next [(3, .ep [.i a0.Round, .sl .no 1 (a0.Notches.map cI), .sl .no 1 (a0.Coins.map cI)]), (4, .ep [.i a1]), (8, .ep [.i r1.1.1.Wheel.Round, .sl .no 1 (r1.1.1.Wheel.Notches.map cI), .sl .no 1 (r1.1.1.Wheel.Coins.map cI)]), (10, .i v5), (24, .sl .no 1 (a2.map cI)), (25, .i (a2.length : Int)), (26, .i v6), (27, .b (decide (v6 < (a2.length : Int))))] (.k (.k (.k (.k (.k (.k (.k (.k .nil)))))))) ?_
   refine r_seq ?_
   rcases Bool.eq_false_or_eq_true (decide (v6 < (a2.length : Int))) with hb7 | hb7
   ·replace hM := ifT hM hb7
    refine w_condT (e := (decide (v6 < (a2.length : Int)))) rfl hb7 ?_
    refine r_skip ?_
    refine w_next [(3, .ep [.i a0.Round, .sl .no 1 (a0.Notches.map cI), .sl .no 1 (a0.Coins.map cI)]), (4, .ep [.i a1]), (8, .ep [.i r1.1.1.Wheel.Round, .sl .no 1 (r1.1.1.Wheel.Notches.map cI), .sl .no 1 (r1.1.1.Wheel.Coins.map cI)]), (10, .i v5), (24, .sl .no 1 (a2.map cI)), (25, .i (a2.length : Int)), (26, .i v6)] (.k (.k (.k (.k (.k (.k (.k .nil))))))) ?_
    refine r_seq ?_
    refine r_block ?_
    refine r_seq ?_
    refine r_region (n := 3) rfl ?_
    obtain ⟨x8, hx8, hM⟩ := bindE hM
    refine o_index (xs := a2) (f := cI) (z := v6) (u := x8) (by decide) rfl rfl ty_es22 hx8 ?_
    refine o_loadE (v := .i x8) (by decide) rfl (part_one ty_agg3 ty_sc3 rfl) ?_
    refine o_assign (v := .i x8) (by decide) rfl ?_
    refine run_nil ?_
    refine w_next [(3, .ep [.i a0.Round, .sl .no 1 (a0.Notches.map cI), .sl .no 1 (a0.Coins.map cI)]), (4, .ep [.i a1]), (8, .ep [.i r1.1.1.Wheel.Round, .sl .no 1 (r1.1.1.Wheel.Notches.map cI), .sl .no 1 (r1.1.1.Wheel.Coins.map cI)]), (10, .i v5), (12, .i x8), (24, .sl .no 1 (a2.map cI)), (25, .i (a2.length : Int)), (26, .i v6)] (.k (.k (.k (.k (.k (.k (.k (.k .nil)))))))) ?_
    refine r_region (n := 8) rfl ?_
    refine o_move (v := .i v5) (by decide) rfl ?_
    refine o_fieldE (cs := [.i a0.Round, .sl .no 1 (a0.Notches.map cI), .sl .no 1 (a0.Coins.map cI)]) (by decide) ty_fo24_2 rfl ?_
    refine o_loadE (v := .sl .no 1 (a0.Coins.map cI)) (by decide) rfl (part_one ty_agg22 ty_sc22 rfl) ?_
    refine o_move (v := .i x8) (by decide) rfl ?_
    obtain ⟨x9, hx9, hM⟩ := bindE hM
    refine o_index (xs := a0.Coins) (f := cI) (z := x8) (u := x9) (by decide) rfl rfl ty_es22 hx9 ?_
    refine o_loadE (v := .i x9) (by decide) rfl (part_one ty_agg3 ty_sc3 rfl) ?_
    refine o_int (v := .i (w64 (v5 + x9))) (by decide) rfl rfl rfl ?_
    refine o_assign (v := .i (w64 (v5 + x9))) (by decide) rfl ?_
    refine run_nil ?_
    refine r_blk_normal ?_
    refine w_next [(3, .ep [.i a0.Round, .sl .no 1 (a0.Notches.map cI), .sl .no 1 (a0.Coins.map cI)]), (4, .ep [.i a1]), (8, .ep [.i r1.1.1.Wheel.Round, .sl .no 1 (r1.1.1.Wheel.Notches.map cI), .sl .no 1 (r1.1.1.Wheel.Coins.map cI)]), (10, .i (w64 (v5 + x9))), (24, .sl .no 1 (a2.map cI)), (25, .i (a2.length : Int)), (26, .i v6)] (.k (.k (.k (.k (.k (.k (.k .nil))))))) ?_
    refine r_region (n := 2) rfl ?_
    refine o_int (v := .i (w64 (v6 + 1))) (by decide) rfl rfl rfl ?_
    refine o_move (v := .i (w64 (v6 + 1))) (by decide) rfl ?_
    refine run_nil ?_
    exact w_round (w64 (v5 + x9), w64 (v6 + 1)) (Nat.lt_succ_self _) (.k (.k (.k (.k (.k (.k (.k .nil))))))) ⟨(hS.keep [] rfl).up (by omega), hM⟩
   ·replace hM := ifF hM hb7
    refine w_condF (e := (decide (v6 < (a2.length : Int)))) rfl hb7 ?_
    refine r_exit ?_
    refine r_then_exit ?_
    refine w_round_exit ?_
    refine r_blk_exit ?_
    exact w_goto v5 (.k (.k (.k .nil))) ⟨(hS.keep [] rfl).up (by omega), hM⟩
theorem W_law01_CoinsAround {n : Nat} {a0 : Wheel} {a1 : Int} {a2 : Int} {r : Bool} (hM : law01_CoinsAround n a0 a1 a2 = some r) : PureSat Try.prog 10 [.agg [.i a0.Round, .sl .no 1 (a0.Notches.map cI), .sl .no 1 (a0.Coins.map cI)], .i a1, .i a2] (.b r) := by
 refine pure_of_wp mixed Try.func10 rfl (by decide) Try.ntmps10 (by simp) ?pure fun H0 g hf => ?_
 case pure => exact .v _
 rw [frame0_of]
 change wpA _ _ _ _ (Fr.of [(0, .agg [.i a0.Round, .sl .no 1 (a0.Notches.map cI), .sl .no 1 (a0.Coins.map cI)]), (1, .i a1), (2, .i a2)]) H0 g
 have hS := St.start hf
 refine r_seq ?_
 refine r_region (n := 2) rfl ?_
 refine o_box (v := .agg [.i a0.Round, .sl .no 1 (a0.Notches.map cI), .sl .no 1 (a0.Coins.map cI)]) (cs := [.i a0.Round, .sl .no 1 (a0.Notches.map cI), .sl .no 1 (a0.Coins.map cI)]) hS (by decide) rfl rfl (by omega) fun H hS => ?_
 refine o_assign (v := .b false) (by decide) rfl ?_
 refine run_nil ?_
 refine w_iceE (L' := []) 0 3 hS rfl rfl rfl fun H hS => ?_
 refine w_next [(1, .i a1), (2, .i a2), (3, .ep [.i a0.Round, .sl .no 1 (a0.Notches.map cI), .sl .no 1 (a0.Coins.map cI)])] (.k (.k (.k .nil))) ?_
 refine r_seq ?_
 refine w_join (J := Bool) (fun j => [(1, .i a1), (2, .i a2), (3, .ep [.i a0.Round, .sl .no 1 (a0.Notches.map cI), .sl .no 1 (a0.Coins.map cI)]), (33, .b j)]) (fun j H' g' => St (· < g) H0 [] H' g' ∧ law01_CoinsAround_j1 n a0 a1 a2 j = some r) ?_ ?_
 ·rintro v1 H g1 ⟨hS, hM⟩
  change wpA _ _ _ _ (Fr.of [(1, .i a1), (2, .i a2), (3, .ep [.i a0.Round, .sl .no 1 (a0.Notches.map cI), .sl .no 1 (a0.Coins.map cI)]), (33, .b v1)]) _ _
  replace hS : St (· < g) H0 [] H g1 := hS
  replace hM : law01_CoinsAround_j1 n a0 a1 a2 v1 = some r := hM
  rcases Bool.eq_false_or_eq_true v1 with hb2 | hb2
  ·replace hM := ifT hM hb2
   refine w_condT (e := v1) rfl hb2 ?_
   refine r_seq ?_
   refine r_region (n := 2) rfl ?_
   obtain ⟨r3, hr3, hM⟩ := bindE hM
   refine o_call (bs := []) (by decide) rfl rfl ((W_law01_works hr3).le .nil) ?_
   refine o_assign (v := .b r3) (by decide) rfl ?_
   refine run_nil ?_
   refine w_next [(6, .b r3)] (.k .nil) ?_
   refine r_ret ?_
   refine r_then_ret ?_
   refine w_end (x := .b r3) (f := fun r => .b r) (.inr rfl) ?_ (.refl _) (Option.some.inj hM) hS
   exact (res_one (res_tmp (x := .b r3) rfl))
  ·replace hM := ifF hM hb2
   refine w_condF (e := v1) rfl hb2 ?_
   refine r_skip ?_
   refine w_next [(1, .i a1), (2, .i a2), (3, .ep [.i a0.Round, .sl .no 1 (a0.Notches.map cI), .sl .no 1 (a0.Coins.map cI)])] (.k (.k (.k .nil))) ?_
   refine r_seq ?_
   refine r_region (n := 1) rfl ?_
   refine o_assign (v := .sl .nil 0 []) (by decide) rfl ?_
   refine run_nil ?_
   refine w_own [(1, .i a1), (2, .i a2), (3, .ep [.i a0.Round, .sl .no 1 (a0.Notches.map cI), .sl .no 1 (a0.Coins.map cI)]), (7, .sl (.id (g1 + 1)) 1 (([] : List Int).map cI))] 7 1 3 hS (by omega) (by decide) rfl (.k (.k (.k (.k .nil)))) fun H hS => ?_
   refine r_seq ?_
   refine r_region (n := 1) rfl ?_
   refine o_assign (v := .i 0) (by decide) rfl ?_
   refine run_nil ?_
   refine w_next [(1, .i a1), (2, .i a2), (3, .ep [.i a0.Round, .sl .no 1 (a0.Notches.map cI), .sl .no 1 (a0.Coins.map cI)]), (7, .sl (.id (g1 + 1)) 1 (([] : List Int).map cI)), (8, .i 0)] (.k (.k (.k (.k (.k .nil))))) ?_
   refine w_join (J := (List Int) × Int) (fun j => [(1, .i a1), (3, .ep [.i a0.Round, .sl .no 1 (a0.Notches.map cI), .sl .no 1 (a0.Coins.map cI)]), (7, .sl (.id (g1 + 1)) 1 (j.1.map cI)), (8, .i j.2)]) (fun j H' g' => St (· < g) H0 [(g1 + 1, .row 3 j.1.length)] H' g' ∧ law01_CoinsAround_j2 n a0 a1 j.1 j.2 = some r) ?_ ?_
   ·rintro ⟨v4, v5⟩ H g2 ⟨hS, hM⟩
    change wpA _ _ _ _ (Fr.of [(1, .i a1), (3, .ep [.i a0.Round, .sl .no 1 (a0.Notches.map cI), .sl .no 1 (a0.Coins.map cI)]), (7, .sl (.id (g1 + 1)) 1 (v4.map cI)), (8, .i v5)]) _ _
    replace hS : St (· < g) H0 [(g1 + 1, .row 3 v4.length)] H g2 := hS
    replace hM : law01_CoinsAround_j2 n a0 a1 v4 v5 = some r := hM
    refine r_seq ?_
    refine r_region (n := 9) rfl ?_
    refine o_loadE (v := .agg [.i a0.Round, .sl .no 1 (a0.Notches.map cI), .sl .no 1 (a0.Coins.map cI)]) (by decide) rfl (part_agg ty_agg24 (Nat.le_of_ble_eq_true rfl) rfl) ?_
    refine o_move (v := .i a1) (by decide) rfl ?_
    refine o_move (v := .sl (.id (g1 + 1)) 1 (v4.map cI)) (by decide) rfl ?_
    obtain ⟨r6, hr6, hM⟩ := bindE hM
    refine o_call (bs := [.agg [.i a0.Round, .sl .no 1 (a0.Notches.map cI), .sl .no 1 (a0.Coins.map cI)], .i a1, .sl (.id (g1 + 1)) 1 (v4.map cI)]) (by decide) rfl rfl ((W_coins_Plays hr6).le (.k (.k (.cons (.sl _ _ _) .nil)))) ?_
    refine o_move (v := .tup [.i r6.1, .i r6.2]) (by decide) rfl ?_
    refine o_extract (v := .i r6.1) (by decide) rfl rfl ?_
    refine o_extract (v := .i r6.2) (by decide) rfl rfl ?_
    refine o_assign (v := .i r6.1) (by decide) rfl ?_
    refine o_assign (v := .i r6.2) (by decide) rfl ?_
    refine run_nil ?_
    refine w_next [(1, .i a1), (3, .ep [.i a0.Round, .sl .no 1 (a0.Notches.map cI), .sl .no 1 (a0.Coins.map cI)]), (7, .sl (.id (g1 + 1)) 1 (v4.map cI)), (8, .i v5), (9, .i r6.1), (10, .i r6.2)] (.k (.k (.k (.k (.k (.k .nil)))))) ?_
    refine r_seq ?_
    refine r_region (n := 13) rfl ?_
    refine o_loadE (v := .agg [.i a0.Round, .sl .no 1 (a0.Notches.map cI), .sl .no 1 (a0.Coins.map cI)]) (by decide) rfl (part_agg ty_agg24 (Nat.le_of_ble_eq_true rfl) rfl) ?_
    refine o_move (v := .i a1) (by decide) rfl ?_
    refine o_build (cs := [.i a1, .i 0]) (by decide) ty_zero57 ty_pl57 rfl ?_
    refine o_move (v := .sl (.id (g1 + 1)) 1 (v4.map cI)) (by decide) rfl ?_
    obtain ⟨r7, hr7, hM⟩ := bindE hM
    refine o_call (bs := [.agg [.i a0.Round, .sl .no 1 (a0.Notches.map cI), .sl .no 1 (a0.Coins.map cI)], .agg [.i a1, .i 0], .sl (.id (g1 + 1)) 1 (v4.map cI)]) (by decide) rfl rfl ((W_coins_Run hr7).le (.k (.k (.cons (.sl _ _ _) .nil)))) ?_
    refine o_move (v := .tup [.agg [.i r7.1.Place, .i r7.1.Credit], .i r7.2.1, .i r7.2.2]) (by decide) rfl ?_
    refine o_extract (v := .agg [.i r7.1.Place, .i r7.1.Credit]) (by decide) rfl rfl ?_
    refine o_extract (v := .i r7.2.1) (by decide) rfl rfl ?_
    refine o_extract (v := .i r7.2.2) (by decide) rfl rfl ?_
    refine o_alloc hS (by decide) ty_zero57 (by omega) fun H hS => ?_
    refine o_store (v := .agg [.i r7.1.Place, .i r7.1.Credit]) (ns := [.i r7.1.Place, .i r7.1.Credit]) (L' := [(g2 + 9 + 9, .cells [.i r7.1.Place, .i r7.1.Credit]), (g1 + 1, .row 3 v4.length)]) 0 hS rfl rfl .no rfl rfl ty_var57 (Nat.le_of_ble_eq_true rfl) rfl fun H hS => ?_
    refine o_assign (v := .i r7.2.1) (by decide) rfl ?_
    refine o_assign (v := .i r7.2.2) (by decide) rfl ?_
    refine run_nil ?_
    refine w_iceE (L' := [(g1 + 1, .row 3 v4.length)]) 0 11 hS rfl rfl rfl fun H hS => ?_
    replace hS := hS.keep (L' := []) [false] rfl
    refine w_next [(1, .i a1), (3, .ep [.i a0.Round, .sl .no 1 (a0.Notches.map cI), .sl .no 1 (a0.Coins.map cI)]), (8, .i v5), (9, .i r6.1), (10, .i r6.2), (11, .ep [.i r7.1.Place, .i r7.1.Credit]), (13, .i r7.2.2)] (.k (.k (.k (.k (.k (.k (.k .nil))))))) ?_
    refine w_join (J := Bool) (fun j => [(6, .b j)]) (fun j H' g' => St (· < g) H0 [] H' g' ∧ law01_CoinsAround_j3 j = some r) ?_ ?_
    ·rintro v8 H g3 ⟨hS, hM⟩
     change wpA _ _ _ _ (Fr.of [(6, .b v8)]) _ _
     replace hS : St (· < g) H0 [] H g3 := hS
     replace hM : law01_CoinsAround_j3 v8 = some r := hM
     refine r_ret ?_
     refine w_end (x := .b v8) (f := fun r => .b r) (.inr rfl) ?_ (.refl _) (Option.some.inj hM) hS
     exact (res_one (res_tmp (x := .b v8) rfl))
    ·have hS0 := hS
     refine r_draw (n := 34) rfl (by kernel_rfl) ?_
     refine o_move (v := .i r6.2) (by decide) rfl ?_
     refine o_int (v := .b (r6.2 == 0)) (by decide) rfl rfl rfl ?_
     refine o_move (v := .b (r6.2 == 0)) (by decide) rfl ?_
     rcases Bool.eq_false_or_eq_true (r6.2 == 0) with hb9 | hb9
     ·replace hM := ifT hM hb9
      refine o_guardY (j := 2) (e := (r6.2 == 0)) (want := true) rfl hb9 ?_
      refine o_move (v := .i r7.2.2) (by decide) rfl ?_
      refine o_guardY (j := 2) (e := (r6.2 == 0)) (want := true) rfl hb9 ?_
      refine o_int (v := .b (r7.2.2 == 0)) (by decide) rfl rfl rfl ?_
      refine o_pickT (v := .b (r7.2.2 == 0)) (e := (r6.2 == 0)) (by decide) rfl hb9 rfl ?_
      refine o_move (v := .b (r7.2.2 == 0)) (by decide) rfl ?_
      rcases Bool.eq_false_or_eq_true (r7.2.2 == 0) with hb10 | hb10
      ·replace hM := ifT hM hb10
       refine o_guardY (j := 6) (e := (r7.2.2 == 0)) (want := true) rfl hb10 ?_
       refine o_move (v := .i r6.1) (by decide) rfl ?_
       refine o_guardY (j := 6) (e := (r7.2.2 == 0)) (want := true) rfl hb10 ?_
       refine o_move (v := .i v5) (by decide) rfl ?_
       refine o_guardY (j := 6) (e := (r7.2.2 == 0)) (want := true) rfl hb10 ?_
       refine o_fieldE (cs := [.i a0.Round, .sl .no 1 (a0.Notches.map cI), .sl .no 1 (a0.Coins.map cI)]) (by decide) ty_fo24_0 rfl ?_
       refine o_guardY (j := 6) (e := (r7.2.2 == 0)) (want := true) rfl hb10 ?_
       refine o_loadE (v := .i a0.Round) (by decide) rfl (part_one ty_agg3 ty_sc3 rfl) ?_
       refine o_guardY (j := 6) (e := (r7.2.2 == 0)) (want := true) rfl hb10 ?_
       obtain ⟨q11, hq11, hM⟩ := bindE hM
       refine o_int (by decide) rfl rfl (quo_int hq11) ?_
       refine o_guardY (j := 6) (e := (r7.2.2 == 0)) (want := true) rfl hb10 ?_
       refine o_fieldE (cs := [.i a0.Round, .sl .no 1 (a0.Notches.map cI), .sl .no 1 (a0.Coins.map cI)]) (by decide) ty_fo24_1 rfl ?_
       refine o_guardY (j := 6) (e := (r7.2.2 == 0)) (want := true) rfl hb10 ?_
       refine o_loadE (v := .sl .no 1 (a0.Notches.map cI)) (by decide) rfl (part_one ty_agg22 ty_sc22 rfl) ?_
       refine o_guardY (j := 6) (e := (r7.2.2 == 0)) (want := true) rfl hb10 ?_
       refine o_len (n := a0.Notches.length) (by decide) rfl (List.length_map _) ty_isl22 ?_
       refine o_guardY (j := 6) (e := (r7.2.2 == 0)) (want := true) rfl hb10 ?_
       refine o_int (v := .i (w64 (q11 * (a0.Notches.length : Int)))) (by decide) rfl rfl rfl ?_
       refine o_guardY (j := 6) (e := (r7.2.2 == 0)) (want := true) rfl hb10 ?_
       refine o_int (v := .b (r6.1 == (w64 (q11 * (a0.Notches.length : Int))))) (by decide) rfl rfl rfl ?_
       refine o_pickT (v := .b (r6.1 == (w64 (q11 * (a0.Notches.length : Int))))) (e := (r7.2.2 == 0)) (by decide) rfl hb10 rfl ?_
       refine o_move (v := .b (r6.1 == (w64 (q11 * (a0.Notches.length : Int))))) (by decide) rfl ?_
       rcases Bool.eq_false_or_eq_true (r6.1 == (w64 (q11 * (a0.Notches.length : Int)))) with hb12 | hb12
       ·replace hM := ifT hM hb12
        refine o_guardY (j := 18) (e := (r6.1 == (w64 (q11 * (a0.Notches.length : Int))))) (want := true) rfl hb12 ?_
        refine o_fieldE (cs := [.i r7.1.Place, .i r7.1.Credit]) (by decide) ty_fo57_0 rfl ?_
        refine o_guardY (j := 18) (e := (r6.1 == (w64 (q11 * (a0.Notches.length : Int))))) (want := true) rfl hb12 ?_
        refine o_loadE (v := .i r7.1.Place) (by decide) rfl (part_one ty_agg3 ty_sc3 rfl) ?_
        refine o_guardY (j := 18) (e := (r6.1 == (w64 (q11 * (a0.Notches.length : Int))))) (want := true) rfl hb12 ?_
        refine o_move (v := .i a1) (by decide) rfl ?_
        refine o_guardY (j := 18) (e := (r6.1 == (w64 (q11 * (a0.Notches.length : Int))))) (want := true) rfl hb12 ?_
        refine o_int (v := .b (r7.1.Place == a1)) (by decide) rfl rfl rfl ?_
        refine o_pickT (v := .b (r7.1.Place == a1)) (e := (r6.1 == (w64 (q11 * (a0.Notches.length : Int))))) (by decide) rfl hb12 rfl ?_
        refine o_move (v := .b (r7.1.Place == a1)) (by decide) rfl ?_
        rcases Bool.eq_false_or_eq_true (r7.1.Place == a1) with hb13 | hb13
        ·replace hM := ifT hM hb13
         refine o_guardY (j := 24) (e := (r7.1.Place == a1)) (want := true) rfl hb13 ?_
         refine o_fieldE (cs := [.i r7.1.Place, .i r7.1.Credit]) (by decide) ty_fo57_1 rfl ?_
         refine o_guardY (j := 24) (e := (r7.1.Place == a1)) (want := true) rfl hb13 ?_
         refine o_loadE (v := .i r7.1.Credit) (by decide) rfl (part_one ty_agg3 ty_sc3 rfl) ?_
         refine o_guardY (j := 24) (e := (r7.1.Place == a1)) (want := true) rfl hb13 ?_
         refine o_move (v := .i r6.1) (by decide) rfl ?_
         refine o_guardY (j := 24) (e := (r7.1.Place == a1)) (want := true) rfl hb13 ?_
         refine o_int (v := .b (r7.1.Credit == r6.1)) (by decide) rfl rfl rfl ?_
         refine o_pickT (v := .b (r7.1.Credit == r6.1)) (e := (r7.1.Place == a1)) (by decide) rfl hb13 rfl ?_
         refine o_move (v := .b (r7.1.Credit == r6.1)) (by decide) rfl ?_
         rcases Bool.eq_false_or_eq_true (r7.1.Credit == r6.1) with hb14 | hb14
         ·replace hM := ifT hM hb14
          refine o_guardY (j := 30) (e := (r7.1.Credit == r6.1)) (want := true) rfl hb14 ?_
          obtain ⟨r15, hr15, hM⟩ := bindE hM
          refine o_call (bs := []) (by decide) rfl rfl ((W_law01_works hr15).le .nil) ?_
          refine o_pickT (v := .b r15) (e := (r7.1.Credit == r6.1)) (by decide) rfl hb14 rfl ?_
          refine o_assign (v := .b r15) (by decide) rfl ?_
          refine run_nil ?_
          exact w_goto r15 (.k .nil) ⟨(hS.keep [] rfl).up (by omega), hM⟩
         ·replace hM := ifF hM hb14
          refine o_guardN (j := 30) (e := (r7.1.Credit == r6.1)) (want := true) (by decide) rfl hb14 ?_
          refine o_pickF (v := .b false) (e := (r7.1.Credit == r6.1)) (by decide) rfl hb14 rfl ?_
          refine o_assign (v := .b false) (by decide) rfl ?_
          refine run_nil ?_
          exact w_goto false (.k .nil) ⟨(hS.keep [] rfl).up (by omega), hM⟩
        ·replace hM := ifF hM hb13
         refine o_guardN (j := 24) (e := (r7.1.Place == a1)) (want := true) (by decide) rfl hb13 ?_
         refine o_guardN (j := 24) (e := (r7.1.Place == a1)) (want := true) (by decide) rfl hb13 ?_
         refine o_guardN (j := 24) (e := (r7.1.Place == a1)) (want := true) (by decide) rfl hb13 ?_
         refine o_guardN (j := 24) (e := (r7.1.Place == a1)) (want := true) (by decide) rfl hb13 ?_
         refine o_pickF (v := .b false) (e := (r7.1.Place == a1)) (by decide) rfl hb13 rfl ?_
         refine o_move (v := .b false) (by decide) rfl ?_
         refine o_guardN (j := 30) (e := false) (want := true) (by decide) rfl rfl ?_
         refine o_pickF (v := .b false) (e := false) (by decide) rfl rfl rfl ?_
         refine o_assign (v := .b false) (by decide) rfl ?_
         refine run_nil ?_
         exact w_goto false (.k .nil) ⟨(hS.keep [] rfl).up (by omega), hM⟩
       ·replace hM := ifF hM hb12
        refine o_guardN (j := 18) (e := (r6.1 == (w64 (q11 * (a0.Notches.length : Int))))) (want := true) (by decide) rfl hb12 ?_
        refine o_guardN (j := 18) (e := (r6.1 == (w64 (q11 * (a0.Notches.length : Int))))) (want := true) (by decide) rfl hb12 ?_
        refine o_guardN (j := 18) (e := (r6.1 == (w64 (q11 * (a0.Notches.length : Int))))) (want := true) (by decide) rfl hb12 ?_
        refine o_guardN (j := 18) (e := (r6.1 == (w64 (q11 * (a0.Notches.length : Int))))) (want := true) (by decide) rfl hb12 ?_
        refine o_pickF (v := .b false) (e := (r6.1 == (w64 (q11 * (a0.Notches.length : Int))))) (by decide) rfl hb12 rfl ?_
        refine o_move (v := .b false) (by decide) rfl ?_
        refine o_guardN (j := 24) (e := false) (want := true) (by decide) rfl rfl ?_
        refine o_guardN (j := 24) (e := false) (want := true) (by decide) rfl rfl ?_
        refine o_guardN (j := 24) (e := false) (want := true) (by decide) rfl rfl ?_
        refine o_guardN (j := 24) (e := false) (want := true) (by decide) rfl rfl ?_
        refine o_pickF (v := .b false) (e := false) (by decide) rfl rfl rfl ?_
        refine o_move (v := .b false) (by decide) rfl ?_
        refine o_guardN (j := 30) (e := false) (want := true) (by decide) rfl rfl ?_
        refine o_pickF (v := .b false) (e := false) (by decide) rfl rfl rfl ?_
        refine o_assign (v := .b false) (by decide) rfl ?_
        refine run_nil ?_
        exact w_goto false (.k .nil) ⟨(hS.keep [] rfl).up (by omega), hM⟩
      ·replace hM := ifF hM hb10
       refine o_guardN (j := 6) (e := (r7.2.2 == 0)) (want := true) (by decide) rfl hb10 ?_
       refine o_guardN (j := 6) (e := (r7.2.2 == 0)) (want := true) (by decide) rfl hb10 ?_
       refine o_guardN (j := 6) (e := (r7.2.2 == 0)) (want := true) (by decide) rfl hb10 ?_
       refine o_guardN (j := 6) (e := (r7.2.2 == 0)) (want := true) (by decide) rfl hb10 ?_
       refine o_guardN (j := 6) (e := (r7.2.2 == 0)) (want := true) (by decide) rfl hb10 ?_
       refine o_guardN (j := 6) (e := (r7.2.2 == 0)) (want := true) (by decide) rfl hb10 ?_
       refine o_guardN (j := 6) (e := (r7.2.2 == 0)) (want := true) (by decide) rfl hb10 ?_
       refine o_guardN (j := 6) (e := (r7.2.2 == 0)) (want := true) (by decide) rfl hb10 ?_
       refine o_guardN (j := 6) (e := (r7.2.2 == 0)) (want := true) (by decide) rfl hb10 ?_
       refine o_guardN (j := 6) (e := (r7.2.2 == 0)) (want := true) (by decide) rfl hb10 ?_
       refine o_pickF (v := .b false) (e := (r7.2.2 == 0)) (by decide) rfl hb10 rfl ?_
       refine o_move (v := .b false) (by decide) rfl ?_
       refine o_guardN (j := 18) (e := false) (want := true) (by decide) rfl rfl ?_
       refine o_guardN (j := 18) (e := false) (want := true) (by decide) rfl rfl ?_
       refine o_guardN (j := 18) (e := false) (want := true) (by decide) rfl rfl ?_
       refine o_guardN (j := 18) (e := false) (want := true) (by decide) rfl rfl ?_
       refine o_pickF (v := .b false) (e := false) (by decide) rfl rfl rfl ?_
       refine o_move (v := .b false) (by decide) rfl ?_
       refine o_guardN (j := 24) (e := false) (want := true) (by decide) rfl rfl ?_
       refine o_guardN (j := 24) (e := false) (want := true) (by decide) rfl rfl ?_
       refine o_guardN (j := 24) (e := false) (want := true) (by decide) rfl rfl ?_
       refine o_guardN (j := 24) (e := false) (want := true) (by decide) rfl rfl ?_
       refine o_pickF (v := .b false) (e := false) (by decide) rfl rfl rfl ?_
       refine o_move (v := .b false) (by decide) rfl ?_
       refine o_guardN (j := 30) (e := false) (want := true) (by decide) rfl rfl ?_
       refine o_pickF (v := .b false) (e := false) (by decide) rfl rfl rfl ?_
       refine o_assign (v := .b false) (by decide) rfl ?_
       refine run_nil ?_
       exact w_goto false (.k .nil) ⟨(hS.keep [] rfl).up (by omega), hM⟩
     ·replace hM := ifF hM hb9
      refine o_guardN (j := 2) (e := (r6.2 == 0)) (want := true) (by decide) rfl hb9 ?_
      refine o_guardN (j := 2) (e := (r6.2 == 0)) (want := true) (by decide) rfl hb9 ?_
      refine o_pickF (v := .b false) (e := (r6.2 == 0)) (by decide) rfl hb9 rfl ?_
      refine o_move (v := .b false) (by decide) rfl ?_
      refine o_guardN (j := 6) (e := false) (want := true) (by decide) rfl rfl ?_
      refine o_guardN (j := 6) (e := false) (want := true) (by decide) rfl rfl ?_
      refine o_guardN (j := 6) (e := false) (want := true) (by decide) rfl rfl ?_
      refine o_guardN (j := 6) (e := false) (want := true) (by decide) rfl rfl ?_
      refine o_guardN (j := 6) (e := false) (want := true) (by decide) rfl rfl ?_
      refine o_guardN (j := 6) (e := false) (want := true) (by decide) rfl rfl ?_
      refine o_guardN (j := 6) (e := false) (want := true) (by decide) rfl rfl ?_
      refine o_guardN (j := 6) (e := false) (want := true) (by decide) rfl rfl ?_
      refine o_guardN (j := 6) (e := false) (want := true) (by decide) rfl rfl ?_
      refine o_guardN (j := 6) (e := false) (want := true) (by decide) rfl rfl ?_
      refine o_pickF (v := .b false) (e := false) (by decide) rfl rfl rfl ?_
      refine o_move (v := .b false) (by decide) rfl ?_
      refine o_guardN (j := 18) (e := false) (want := true) (by decide) rfl rfl ?_
      refine o_guardN (j := 18) (e := false) (want := true) (by decide) rfl rfl ?_
      refine o_guardN (j := 18) (e := false) (want := true) (by decide) rfl rfl ?_
      refine o_guardN (j := 18) (e := false) (want := true) (by decide) rfl rfl ?_
      refine o_pickF (v := .b false) (e := false) (by decide) rfl rfl rfl ?_
      refine o_move (v := .b false) (by decide) rfl ?_
      refine o_guardN (j := 24) (e := false) (want := true) (by decide) rfl rfl ?_
      refine o_guardN (j := 24) (e := false) (want := true) (by decide) rfl rfl ?_
      refine o_guardN (j := 24) (e := false) (want := true) (by decide) rfl rfl ?_
      refine o_guardN (j := 24) (e := false) (want := true) (by decide) rfl rfl ?_
      refine o_pickF (v := .b false) (e := false) (by decide) rfl rfl rfl ?_
      refine o_move (v := .b false) (by decide) rfl ?_
      refine o_guardN (j := 30) (e := false) (want := true) (by decide) rfl rfl ?_
      refine o_pickF (v := .b false) (e := false) (by decide) rfl rfl rfl ?_
      refine o_assign (v := .b false) (by decide) rfl ?_
      refine run_nil ?_
      exact w_goto false (.k .nil) ⟨(hS.keep [] rfl).up (by omega), hM⟩
   ·refine r_block ?_
    refine w_loop (V := (List Int) × Int) (fun v => [(1, .i a1), (2, .i a2), (3, .ep [.i a0.Round, .sl .no 1 (a0.Notches.map cI), .sl .no 1 (a0.Coins.map cI)]), (7, .sl (.id (g1 + 1)) 1 (v.1.map cI)), (8, .i v.2)]) (fun v m4 H' g' => St (· < g) H0 [(g1 + 1, .row 3 v.1.length)] H' g' ∧ law01_CoinsAround_l1 n a0 a1 a2 m4 v.1 v.2 = some r) (n := n) (([] : List Int), 0) (.k (.k (.k (.k (.k .nil))))) ⟨(hS.keep [true] rfl).up (by omega), hM⟩ ?_
    rintro ⟨v16, v17⟩ m4 H g4 ⟨hS, hM⟩
    obtain _ | m4 := m4
    ·exact nomatch (show none = some _ from hM)
    change wpA _ _ _ _ (Fr.of [(1, .i a1), (2, .i a2), (3, .ep [.i a0.Round, .sl .no 1 (a0.Notches.map cI), .sl .no 1 (a0.Coins.map cI)]), (7, .sl (.id (g1 + 1)) 1 (v16.map cI)), (8, .i v17)]) _ _
    replace hS : St (· < g) H0 [(g1 + 1, .row 3 v16.length)] H g4 := hS
    replace hM : law01_CoinsAround_l1_b n a0 a1 a2 (law01_CoinsAround_l1 n a0 a1 a2 m4) v16 v17 = some r := hM
    refine r_seq ?_
    refine w_join (J := Bool) (fun j => [(1, .i a1), (2, .i a2), (3, .ep [.i a0.Round, .sl .no 1 (a0.Notches.map cI), .sl .no 1 (a0.Coins.map cI)]), (7, .sl (.id (g1 + 1)) 1 (v16.map cI)), (8, .i v17), (43, .b j)]) (fun j H' g' => St (· < g) H0 [(g1 + 1, .row 3 v16.length)] H' g' ∧ law01_CoinsAround_j4 n (law01_CoinsAround_l1 n a0 a1 a2 m4) a0 a1 a2 v16 v17 j = some r) ?_ ?_
    ·rintro v18 H g5 ⟨hS, hM⟩
     change wpA _ _ _ _ (Fr.of [(1, .i a1), (2, .i a2), (3, .ep [.i a0.Round, .sl .no 1 (a0.Notches.map cI), .sl .no 1 (a0.Coins.map cI)]), (7, .sl (.id (g1 + 1)) 1 (v16.map cI)), (8, .i v17), (43, .b v18)]) _ _
     replace hS : St (· < g) H0 [(g1 + 1, .row 3 v16.length)] H g5 := hS
     replace hM : law01_CoinsAround_j4 n (law01_CoinsAround_l1 n a0 a1 a2 m4) a0 a1 a2 v16 v17 v18 = some r := hM
     rcases Bool.eq_false_or_eq_true v18 with hb19 | hb19
     ·replace hM := ifT hM hb19
      refine w_condT (e := v18) rfl hb19 ?_
      refine r_skip ?_
      refine w_next [(1, .i a1), (2, .i a2), (3, .ep [.i a0.Round, .sl .no 1 (a0.Notches.map cI), .sl .no 1 (a0.Coins.map cI)]), (7, .sl (.id (g1 + 1)) 1 (v16.map cI)), (8, .i v17)] (.k (.k (.k (.k (.k .nil))))) ?_
      refine r_block ?_
      refine r_seq ?_
      refine r_seq ?_
      refine r_region (n := 3) rfl ?_
      refine o_move (v := .sl (.id (g1 + 1)) 1 (v16.map cI)) (by decide) rfl ?_
      refine o_len (n := v16.length) (by decide) rfl (List.length_map _) ty_isl22 ?_
      refine o_int (v := .b ((v16.length : Int) == 20)) (by decide) rfl rfl rfl ?_
      refine run_nil ?_
      refine w_next [(1, .i a1), (2, .i a2), (3, .ep [.i a0.Round, .sl .no 1 (a0.Notches.map cI), .sl .no 1 (a0.Coins.map cI)]), (7, .sl (.id (g1 + 1)) 1 (v16.map cI)), (8, .i v17), (46, .b ((v16.length : Int) == 20))] (.k (.k (.k (.k (.k (.k .nil)))))) ?_
      rcases Bool.eq_false_or_eq_true ((v16.length : Int) == 20) with hb20 | hb20
      ·replace hM := ifT hM hb20
       refine w_condT (e := ((v16.length : Int) == 20)) rfl hb20 ?_
       refine r_seq ?_
       refine r_region (n := 2) rfl ?_
       obtain ⟨r21, hr21, hM⟩ := bindE hM
       refine o_call (bs := []) (by decide) rfl rfl ((W_law01_works hr21).le .nil) ?_
       refine o_assign (v := .b r21) (by decide) rfl ?_
       refine run_nil ?_
       replace hS := hS.keep (L' := []) [false] rfl
       refine w_next [(6, .b r21)] (.k .nil) ?_
       refine r_ret ?_
       refine r_then_ret ?_
       refine r_blk_ret ?_
       refine w_round_ret ?_
       refine r_blk_ret ?_
       refine w_goto_ret ?_
       refine w_end (x := .b r21) (f := fun r => .b r) (.inr rfl) ?_ (.refl _) (Option.some.inj hM) hS
       exact (res_one (res_tmp (x := .b r21) rfl))
      ·replace hM := ifF hM hb20
       refine w_condF (e := ((v16.length : Int) == 20)) rfl hb20 ?_
       refine r_skip ?_
       refine w_next [(1, .i a1), (2, .i a2), (3, .ep [.i a0.Round, .sl .no 1 (a0.Notches.map cI), .sl .no 1 (a0.Coins.map cI)]), (7, .sl (.id (g1 + 1)) 1 (v16.map cI)), (8, .i v17)] (.k (.k (.k (.k (.k .nil))))) ?_
       have hS0 := hS
       refine r_draw (n := 13) rfl (by kernel_rfl) ?_
       refine o_move (v := .sl (.id (g1 + 1)) 1 (v16.map cI)) (by decide) rfl ?_
       refine o_move (v := .i a2) (by decide) rfl ?_
       refine o_buildSlice (es := [[.i a2]]) hS (by decide) ty_es22 ty_el22 rfl ty_ef22 rfl (by decide) (by omega) fun H hS => ?_
       obtain ⟨l22, hl22, hM⟩ := bindE hM
       refine o_append (xs := v16) (ys := ([a2] : List Int)) (zs := l22) (f := cI) (L' := [(g5 + 3 + 2, .row 3 1), (g1 + 1, .row 3 l22.length)]) 1 hS (by decide) rfl rfl rfl rfl (.st hS0 0 rfl (by omega)) ty_es22 ty_el22 ty_ef22 hl22 rfl fun H hS => ?_
       refine o_move (v := .i v17) (by decide) rfl ?_
       refine o_fieldE (cs := [.i a0.Round, .sl .no 1 (a0.Notches.map cI), .sl .no 1 (a0.Coins.map cI)]) (by decide) ty_fo24_2 rfl ?_
       refine o_loadE (v := .sl .no 1 (a0.Coins.map cI)) (by decide) rfl (part_one ty_agg22 ty_sc22 rfl) ?_
       refine o_move (v := .i a2) (by decide) rfl ?_
       obtain ⟨x23, hx23, hM⟩ := bindE hM
       refine o_index (xs := a0.Coins) (f := cI) (z := a2) (u := x23) (by decide) rfl rfl ty_es22 hx23 ?_
       refine o_loadE (v := .i x23) (by decide) rfl (part_one ty_agg3 ty_sc3 rfl) ?_
       refine o_int (v := .i (w64 (v17 + x23))) (by decide) rfl rfl rfl ?_
       refine o_assign (v := .sl (.id (g1 + 1)) 1 (l22.map cI)) (by decide) rfl ?_
       refine o_assign (v := .i (w64 (v17 + x23))) (by decide) rfl ?_
       refine run_nil ?_
       refine r_blk_normal ?_
       exact w_round (l22, w64 (v17 + x23)) (Nat.lt_succ_self _) (.k (.k (.k (.k (.k .nil))))) ⟨(hS.keep [false, true] rfl).up (by omega), hM⟩
     ·replace hM := ifF hM hb19
      refine w_condF (e := v18) rfl hb19 ?_
      refine r_exit ?_
      refine r_then_exit ?_
      refine w_round_exit ?_
      refine r_blk_exit ?_
      exact w_goto (v16, v17) (.k (.k (.k (.k .nil)))) ⟨(hS.keep [true] rfl).up (by omega), hM⟩
    ·refine r_region (n := 9) rfl ?_
     refine o_move (v := .i v17) (by decide) rfl ?_
     refine o_int (v := .b (v17 == 0)) (by decide) rfl rfl rfl ?_
     refine o_move (v := .b (v17 == 0)) (by decide) rfl ?_
     rcases Bool.eq_false_or_eq_true (v17 == 0) with hb24 | hb24
     ·replace hM := ifT hM hb24
      refine o_guardN (j := 2) (e := (v17 == 0)) (want := false) (by decide) rfl hb24 ?_
      refine o_guardN (j := 2) (e := (v17 == 0)) (want := false) (by decide) rfl hb24 ?_
      refine o_guardN (j := 2) (e := (v17 == 0)) (want := false) (by decide) rfl hb24 ?_
      refine o_guardN (j := 2) (e := (v17 == 0)) (want := false) (by decide) rfl hb24 ?_
      refine o_guardN (j := 2) (e := (v17 == 0)) (want := false) (by decide) rfl hb24 ?_
      refine o_pickT (v := .b true) (e := (v17 == 0)) (by decide) rfl hb24 rfl ?_
      refine run_nil ?_
      exact w_goto true (.k (.k (.k (.k (.k (.k .nil)))))) ⟨(hS.keep [true] rfl).up (by omega), hM⟩
     ·replace hM := ifF hM hb24
      refine o_guardY (j := 2) (e := (v17 == 0)) (want := false) rfl hb24 ?_
      refine o_move (v := .i v17) (by decide) rfl ?_
      refine o_guardY (j := 2) (e := (v17 == 0)) (want := false) rfl hb24 ?_
      refine o_fieldE (cs := [.i a0.Round, .sl .no 1 (a0.Notches.map cI), .sl .no 1 (a0.Coins.map cI)]) (by decide) ty_fo24_0 rfl ?_
      refine o_guardY (j := 2) (e := (v17 == 0)) (want := false) rfl hb24 ?_
      refine o_loadE (v := .i a0.Round) (by decide) rfl (part_one ty_agg3 ty_sc3 rfl) ?_
      refine o_guardY (j := 2) (e := (v17 == 0)) (want := false) rfl hb24 ?_
      obtain ⟨q25, hq25, hM⟩ := bindE hM
      refine o_int (by decide) rfl rfl (rem_int hq25) ?_
      refine o_guardY (j := 2) (e := (v17 == 0)) (want := false) rfl hb24 ?_
      refine o_int (v := .b (q25 != 0)) (by decide) rfl rfl rfl ?_
      refine o_pickF (v := .b (q25 != 0)) (e := (v17 == 0)) (by decide) rfl hb24 rfl ?_
      refine run_nil ?_
      exact w_goto (q25 != 0) (.k (.k (.k (.k (.k (.k .nil)))))) ⟨(hS.keep [true] rfl).up (by omega), hM⟩
 ·refine r_region (n := 20) rfl ?_
  refine o_loadE (v := .agg [.i a0.Round, .sl .no 1 (a0.Notches.map cI), .sl .no 1 (a0.Coins.map cI)]) (by decide) rfl (part_agg ty_agg24 (Nat.le_of_ble_eq_true rfl) rfl) ?_
  obtain ⟨r26, hr26, hM⟩ := bindE hM
  refine o_call (bs := [.agg [.i a0.Round, .sl .no 1 (a0.Notches.map cI), .sl .no 1 (a0.Coins.map cI)]]) (by decide) rfl rfl ((W_law01_isWheel hr26).le (.k .nil)) ?_
  refine o_not (e := r26) (by decide) rfl ?_
  refine o_move (v := .b (!r26)) (by decide) rfl ?_
  rcases Bool.eq_false_or_eq_true (!r26) with hb27 | hb27
  ·replace hM := ifT hM hb27
   refine o_guardN (j := 3) (e := (!r26)) (want := false) (by decide) rfl hb27 ?_
   refine o_guardN (j := 3) (e := (!r26)) (want := false) (by decide) rfl hb27 ?_
   refine o_guardN (j := 3) (e := (!r26)) (want := false) (by decide) rfl hb27 ?_
   refine o_guardN (j := 3) (e := (!r26)) (want := false) (by decide) rfl hb27 ?_
   refine o_pickT (v := .b true) (e := (!r26)) (by decide) rfl hb27 rfl ?_
   refine o_move (v := .b true) (by decide) rfl ?_
   refine o_guardN (j := 9) (e := true) (want := false) (by decide) rfl rfl ?_
   refine o_guardN (j := 9) (e := true) (want := false) (by decide) rfl rfl ?_
   refine o_pickT (v := .b true) (e := true) (by decide) rfl rfl rfl ?_
   refine o_move (v := .b true) (by decide) rfl ?_
   refine o_guardN (j := 13) (e := true) (want := false) (by decide) rfl rfl ?_
   refine o_guardN (j := 13) (e := true) (want := false) (by decide) rfl rfl ?_
   refine o_guardN (j := 13) (e := true) (want := false) (by decide) rfl rfl ?_
   refine o_guardN (j := 13) (e := true) (want := false) (by decide) rfl rfl ?_
   refine o_guardN (j := 13) (e := true) (want := false) (by decide) rfl rfl ?_
   refine o_pickT (v := .b true) (e := true) (by decide) rfl rfl rfl ?_
   refine run_nil ?_
   exact w_goto true (.k (.k (.k (.k .nil)))) ⟨(hS.keep [] rfl).up (by omega), hM⟩
  ·replace hM := ifF hM hb27
   refine o_guardY (j := 3) (e := (!r26)) (want := false) rfl hb27 ?_
   refine o_loadE (v := .agg [.i a0.Round, .sl .no 1 (a0.Notches.map cI), .sl .no 1 (a0.Coins.map cI)]) (by decide) rfl (part_agg ty_agg24 (Nat.le_of_ble_eq_true rfl) rfl) ?_
   refine o_guardY (j := 3) (e := (!r26)) (want := false) rfl hb27 ?_
   refine o_move (v := .i a1) (by decide) rfl ?_
   refine o_guardY (j := 3) (e := (!r26)) (want := false) rfl hb27 ?_
   obtain ⟨r28, hr28, hM⟩ := bindE hM
   refine o_call (bs := [.agg [.i a0.Round, .sl .no 1 (a0.Notches.map cI), .sl .no 1 (a0.Coins.map cI)], .i a1]) (by decide) rfl rfl ((W_ref01_IsPlace hr28).le (.k (.k .nil))) ?_
   refine o_guardY (j := 3) (e := (!r26)) (want := false) rfl hb27 ?_
   refine o_not (e := r28) (by decide) rfl ?_
   refine o_pickF (v := .b (!r28)) (e := (!r26)) (by decide) rfl hb27 rfl ?_
   refine o_move (v := .b (!r28)) (by decide) rfl ?_
   rcases Bool.eq_false_or_eq_true (!r28) with hb29 | hb29
   ·replace hM := ifT hM hb29
    refine o_guardN (j := 9) (e := (!r28)) (want := false) (by decide) rfl hb29 ?_
    refine o_guardN (j := 9) (e := (!r28)) (want := false) (by decide) rfl hb29 ?_
    refine o_pickT (v := .b true) (e := (!r28)) (by decide) rfl hb29 rfl ?_
    refine o_move (v := .b true) (by decide) rfl ?_
    refine o_guardN (j := 13) (e := true) (want := false) (by decide) rfl rfl ?_
    refine o_guardN (j := 13) (e := true) (want := false) (by decide) rfl rfl ?_
    refine o_guardN (j := 13) (e := true) (want := false) (by decide) rfl rfl ?_
    refine o_guardN (j := 13) (e := true) (want := false) (by decide) rfl rfl ?_
    refine o_guardN (j := 13) (e := true) (want := false) (by decide) rfl rfl ?_
    refine o_pickT (v := .b true) (e := true) (by decide) rfl rfl rfl ?_
    refine run_nil ?_
    exact w_goto true (.k (.k (.k (.k .nil)))) ⟨(hS.keep [] rfl).up (by omega), hM⟩
   ·replace hM := ifF hM hb29
    refine o_guardY (j := 9) (e := (!r28)) (want := false) rfl hb29 ?_
    refine o_move (v := .i a2) (by decide) rfl ?_
    refine o_guardY (j := 9) (e := (!r28)) (want := false) rfl hb29 ?_
    refine o_int (v := .b (decide (a2 < 0))) (by decide) rfl rfl rfl ?_
    refine o_pickF (v := .b (decide (a2 < 0))) (e := (!r28)) (by decide) rfl hb29 rfl ?_
    refine o_move (v := .b (decide (a2 < 0))) (by decide) rfl ?_
    rcases Bool.eq_false_or_eq_true (decide (a2 < 0)) with hb30 | hb30
    ·replace hM := ifT hM hb30
     refine o_guardN (j := 13) (e := (decide (a2 < 0))) (want := false) (by decide) rfl hb30 ?_
     refine o_guardN (j := 13) (e := (decide (a2 < 0))) (want := false) (by decide) rfl hb30 ?_
     refine o_guardN (j := 13) (e := (decide (a2 < 0))) (want := false) (by decide) rfl hb30 ?_
     refine o_guardN (j := 13) (e := (decide (a2 < 0))) (want := false) (by decide) rfl hb30 ?_
     refine o_guardN (j := 13) (e := (decide (a2 < 0))) (want := false) (by decide) rfl hb30 ?_
     refine o_pickT (v := .b true) (e := (decide (a2 < 0))) (by decide) rfl hb30 rfl ?_
     refine run_nil ?_
     exact w_goto true (.k (.k (.k (.k .nil)))) ⟨(hS.keep [] rfl).up (by omega), hM⟩
    ·replace hM := ifF hM hb30
     refine o_guardY (j := 13) (e := (decide (a2 < 0))) (want := false) rfl hb30 ?_
     refine o_move (v := .i a2) (by decide) rfl ?_
     refine o_guardY (j := 13) (e := (decide (a2 < 0))) (want := false) rfl hb30 ?_
     refine o_fieldE (cs := [.i a0.Round, .sl .no 1 (a0.Notches.map cI), .sl .no 1 (a0.Coins.map cI)]) (by decide) ty_fo24_2 rfl ?_
     refine o_guardY (j := 13) (e := (decide (a2 < 0))) (want := false) rfl hb30 ?_
     refine o_loadE (v := .sl .no 1 (a0.Coins.map cI)) (by decide) rfl (part_one ty_agg22 ty_sc22 rfl) ?_
     refine o_guardY (j := 13) (e := (decide (a2 < 0))) (want := false) rfl hb30 ?_
     refine o_len (n := a0.Coins.length) (by decide) rfl (List.length_map _) ty_isl22 ?_
     refine o_guardY (j := 13) (e := (decide (a2 < 0))) (want := false) rfl hb30 ?_
     refine o_int (v := .b (decide (a2 ≥ (a0.Coins.length : Int)))) (by decide) rfl rfl rfl ?_
     refine o_pickF (v := .b (decide (a2 ≥ (a0.Coins.length : Int)))) (e := (decide (a2 < 0))) (by decide) rfl hb30 rfl ?_
     refine run_nil ?_
     exact w_goto (decide (a2 ≥ (a0.Coins.length : Int))) (.k (.k (.k (.k .nil)))) ⟨(hS.keep [] rfl).up (by omega), hM⟩
end Go.Proofs.Ytapcibbbmeomkaa
