/-
  The code returns what the functions say (printed by gen.py).
  Conditions: none.
-/
import Derived.Test.YtapcibbbmeomkaaWkCoinsTold2
import Derived.Test.YtapcibbbmeomkaaSh
set_option linter.all false
namespace Go.Proofs.Ytapcibbbmeomkaa
open Go Go.AM Go.Law
set_option linter.unusedVariables false
set_option maxRecDepth 4000
set_option maxHeartbeats 4000000
theorem W_ref01_Rising {n : Nat} {a0 : List Int} {a1 : Int} {a2 : Int} {r : Bool} (hM : ref01_Rising n a0 a1 a2 = some r) : PureSat Try.prog 73 [.sl .no 1 (a0.map cI), .i a1, .i a2] (.b r) := by
 refine pure_of_wp mixed Try.func73 rfl (by decide) Try.ntmps73 (by simp) ?pure fun H0 g hf => ?_
 case pure => exact .v _
 rw [frame0_of]
 change wpA _ _ _ _ (Fr.of [(0, .sl .no 1 (a0.map cI)), (1, .i a1), (2, .i a2)]) H0 g
 have hS := St.start hf
 refine Sq ?_
 refine Rg 1 ?_
 refine Oa (.b false) ?_
 refine Ni ?_
 refine Ws ?_
 refine w_join (J := Unit) (fun j => []) (fun j H' g' => St (· < g) H0 [] H' g' ∧ ref01_Rising_j1 = some r) ?_ ?_
 ·rintro _ H g1 ⟨hS, hM⟩
  change wpA _ _ _ _ (Fr.of []) _ _
  replace hS : St (· < g) H0 [] H g1 := hS
  replace hM : ref01_Rising_j1 = some r := hM
  refine Sq ?_
  refine Rg 1 ?_
  refine Oa (.b true) ?_
  refine Ni ?_
  refine Ws ?_
  refine r_ret ?_
  refine w_end (x := .b true) (f := fun r => .b r) (.inr rfl) ?_ (.refl _) (Option.some.inj hM) hS
  exact (res_one (res_tmp (x := .b true) rfl))
 ·refine Sq ?_
  refine Rg 1 ?_
  refine Oa (.i 0) ?_
  refine Ni ?_
  refine Ws ?_
  refine r_block ?_
  refine w_loop (V := Int) (fun v => [(0, .sl .no 1 (a0.map cI)), (1, .i a1), (2, .i a2), (7, .i v)]) (fun v m2 H' g' => St (· < g) H0 [] H' g' ∧ ref01_Rising_l1 a0 a1 a2 m2 v = some r) (n := n) 0 (.k (.k (.k (.k .nil)))) ⟨(hS.keep [] rfl).up (by omega), hM⟩ ?_
  rintro v1 m2 H g2 ⟨hS, hM⟩
  obtain _ | m2 := m2
  ·exact nomatch (show none = some _ from hM)
  change wpA _ _ _ _ (Fr.of [(0, .sl .no 1 (a0.map cI)), (1, .i a1), (2, .i a2), (7, .i v1)]) _ _
  replace hS : St (· < g) H0 [] H g2 := hS
  replace hM : ref01_Rising_l1_b a0 a1 a2 (ref01_Rising_l1 a0 a1 a2 m2) v1 = some r := hM
  refine Sq ?_
  refine Sq ?_
  refine Rg 4 ?_
  refine Om (.i v1) ?_
  refine Om (.sl .no 1 (a0.map cI)) ?_
  refine o_len (n := a0.length) (by decide) rfl (List.length_map _) ty_isl22 ?_
  refine Oi (.b (decide (v1 < (a0.length : Int)))) ?_
  refine Ni ?_
  refine Ws ?_
  rcases bft (decide (v1 < (a0.length : Int))) with hb2 | hb2
  ·replace hM := ifT hM hb2
   refine Ct hb2 ?_
   refine r_skip ?_
   refine Ws ?_
   refine Sq ?_
   refine r_block ?_
   refine w_join (J := Bool) (fun j => [(0, .sl .no 1 (a0.map cI)), (1, .i a1), (2, .i a2), (7, .i v1), (37, .b j)]) (fun j H' g' => St (· < g) H0 [] H' g' ∧ ref01_Rising_j2 (ref01_Rising_l1 a0 a1 a2 m2) v1 j = some r) ?_ ?_
   ·rintro v3 H g3 ⟨hS, hM⟩
    change wpA _ _ _ _ (Fr.of [(0, .sl .no 1 (a0.map cI)), (1, .i a1), (2, .i a2), (7, .i v1), (37, .b v3)]) _ _
    replace hS : St (· < g) H0 [] H g3 := hS
    replace hM : ref01_Rising_j2 (ref01_Rising_l1 a0 a1 a2 m2) v1 v3 = some r := hM
    rcases bft v3 with hb4 | hb4
    ·replace hM := ifT hM hb4
     refine Ct hb4 ?_
     refine Sq ?_
     refine Rg 1 ?_
     refine Oa (.b false) ?_
     refine Ni ?_
     refine Ws ?_
     refine r_ret ?_
     refine r_blk_ret ?_
     refine r_then_ret ?_
     refine w_round_ret ?_
     refine r_blk_ret ?_
     refine w_goto_ret ?_
     refine w_end (x := .b false) (f := fun r => .b r) (.inr rfl) ?_ (.refl _) (Option.some.inj hM) hS
     exact (res_one (res_tmp (x := .b false) rfl))
    ·replace hM := ifF hM hb4
     refine Cf hb4 ?_
     refine r_skip ?_
     refine r_blk_normal ?_
     refine Ws ?_
     refine Rg 3 ?_
     refine Om (.i v1) ?_
     refine Oi (.i (w64 (v1 + 1))) ?_
     refine Oa (.i (w64 (v1 + 1))) ?_
     refine Ni ?_
     exact w_round (w64 (v1 + 1)) (Nat.lt_succ_self _) (.k (.k (.k (.k .nil)))) ⟨(hS.keep [] rfl).up (by omega), hM⟩
   ·have hS0 := hS
    refine r_draw (n := 24) rfl (by kernel_rfl) ?_
    refine Om (.sl .no 1 (a0.map cI)) ?_
    refine Om (.i v1) ?_
    obtain ⟨x5, hx5, hM⟩ := bindE hM
    refine o_index (xs := a0) (f := cI) (z := v1) (u := x5) (by decide) rfl rfl ty_es22 hx5 ?_
    refine Olp (.i x5) ty_agg3 ty_sc3 ?_
    refine Om (.i a1) ?_
    refine Om (.i a2) ?_
    obtain ⟨r6, hr6, hM⟩ := bindE hM
    refine o_call (bs := [.i x5, .i a1, .i a2]) (by decide) rfl rfl ((W_ref01_Within hr6).le (.k (.k (.k .nil)))) ?_
    refine o_not (e := r6) (by decide) rfl ?_
    refine Om (.b (!r6)) ?_
    rcases bft (!r6) with hb7 | hb7
    ·replace hM := ifT hM hb7
     refine On (want := false) hb7 ?_
     refine On (want := false) hb7 ?_
     refine On (want := false) hb7 ?_
     refine o_guardU (j := 11) (by decide) rfl ?_
     refine o_guardU (j := 11) (by decide) rfl ?_
     refine o_guardU (j := 11) (by decide) rfl ?_
     refine o_guardU (j := 11) (by decide) rfl ?_
     refine o_guardU (j := 11) (by decide) rfl ?_
     refine o_guardU (j := 11) (by decide) rfl ?_
     refine o_guardU (j := 11) (by decide) rfl ?_
     refine o_guardU (j := 11) (by decide) rfl ?_
     refine o_guardU (j := 11) (by decide) rfl ?_
     refine o_guardU (j := 11) (by decide) rfl ?_
     refine On (want := false) hb7 ?_
     refine Pt (.b true) hb7 ?_
     refine Ni ?_
     exact w_goto true (.k (.k (.k (.k (.k .nil))))) ⟨(hS.keep [] rfl).up (by omega), hM⟩
    ·replace hM := ifF hM hb7
     refine Oy (want := false) hb7 ?_
     refine Om (.i v1) ?_
     refine Oy (want := false) hb7 ?_
     refine Oi (.b (decide (v1 > 0))) ?_
     refine Oy (want := false) hb7 ?_
     refine Om (.b (decide (v1 > 0))) ?_
     rcases bft (decide (v1 > 0)) with hb8 | hb8
     ·replace hM := ifT hM hb8
      refine Oy (want := true) hb8 ?_
      refine Om (.sl .no 1 (a0.map cI)) ?_
      refine Oy (want := true) hb8 ?_
      refine Om (.i v1) ?_
      refine Oy (want := true) hb8 ?_
      obtain ⟨x9, hx9, hM⟩ := bindE hM
      refine o_index (xs := a0) (f := cI) (z := v1) (u := x9) (by decide) rfl rfl ty_es22 hx9 ?_
      refine Oy (want := true) hb8 ?_
      refine Olp (.i x9) ty_agg3 ty_sc3 ?_
      refine Oy (want := true) hb8 ?_
      refine Om (.sl .no 1 (a0.map cI)) ?_
      refine Oy (want := true) hb8 ?_
      refine Om (.i v1) ?_
      refine Oy (want := true) hb8 ?_
      refine Oi (.i (w64 (v1 - 1))) ?_
      refine Oy (want := true) hb8 ?_
      obtain ⟨x10, hx10, hM⟩ := bindE hM
      refine o_index (xs := a0) (f := cI) (z := (w64 (v1 - 1))) (u := x10) (by decide) rfl rfl ty_es22 hx10 ?_
      refine Oy (want := true) hb8 ?_
      refine Olp (.i x10) ty_agg3 ty_sc3 ?_
      refine Oy (want := true) hb8 ?_
      refine Oi (.b (decide (x9 ≤ x10))) ?_
      refine Oy (want := false) hb7 ?_
      refine Pt (.b (decide (x9 ≤ x10))) hb8 ?_
      refine Pf (.b (decide (x9 ≤ x10))) hb7 ?_
      refine Ni ?_
      exact w_goto (decide (x9 ≤ x10)) (.k (.k (.k (.k (.k .nil))))) ⟨(hS.keep [] rfl).up (by omega), hM⟩
     ·replace hM := ifF hM hb8
      refine On (want := true) hb8 ?_
      refine On (want := true) hb8 ?_
      refine On (want := true) hb8 ?_
      refine On (want := true) hb8 ?_
      refine On (want := true) hb8 ?_
      refine On (want := true) hb8 ?_
      refine On (want := true) hb8 ?_
      refine On (want := true) hb8 ?_
      refine On (want := true) hb8 ?_
      refine On (want := true) hb8 ?_
      refine Oy (want := false) hb7 ?_
      refine Pf (.b false) hb8 ?_
      refine Pf (.b false) hb7 ?_
      refine Ni ?_
      exact w_goto false (.k (.k (.k (.k (.k .nil))))) ⟨(hS.keep [] rfl).up (by omega), hM⟩
  ·replace hM := ifF hM hb2
   refine Cf hb2 ?_
   refine r_exit ?_
   refine r_then_exit ?_
   refine w_round_exit ?_
   refine r_blk_exit ?_
   exact w_goto () .nil ⟨(hS.keep [] rfl).up (by omega), hM⟩
theorem W_ref01_Check {n : Nat} {a0 : Wheel} {r : Int} (hM : ref01_Check n a0 = some r) : PureSat Try.prog 39 [.agg (Wheel.cells a0)] (.i r) := by
 refine pure_of_wp mixed Try.func39 rfl (by decide) Try.ntmps39 (by simp) ?pure fun H0 g hf => ?_
 case pure => exact .v _
 rw [frame0_of]
 change wpA _ _ _ _ (Fr.of [(0, .agg (Wheel.cells a0))]) H0 g
 have hS := St.start hf
 refine Sq ?_
 refine Rg 2 ?_
 refine o_box (v := .agg (Wheel.cells a0)) (cs := (Wheel.cells a0)) hS (by decide) rfl rfl (by omega) fun H hS => ?_
 refine Oa (.i 0) ?_
 refine Ni ?_
 refine w_iceE (L' := []) 0 1 hS rfl rfl rfl fun H hS => ?_
 refine Ws ?_
 refine Sq ?_
 refine w_join (J := Bool) (fun j => [(32, .b j)]) (fun j H' g' => St (· < g) H0 [] H' g' ∧ ref01_Check_j1 j = some r) ?_ ?_
 ·rintro v1 H g1 ⟨hS, hM⟩
  change wpA _ _ _ _ (Fr.of [(32, .b v1)]) _ _
  replace hS : St (· < g) H0 [] H g1 := hS
  replace hM : ref01_Check_j1 v1 = some r := hM
  rcases bft v1 with hb2 | hb2
  ·replace hM := ifT hM hb2
   refine Ct hb2 ?_
   refine Sq ?_
   refine Rg 1 ?_
   refine Oa (.i 10) ?_
   refine Ni ?_
   refine Ws ?_
   refine r_ret ?_
   refine r_then_ret ?_
   refine w_end (x := .i 10) (f := fun r => .i r) (.inr rfl) ?_ (.refl _) (Option.some.inj hM) hS
   exact (res_one (res_tmp (x := .i 10) rfl))
  ·replace hM := ifF hM hb2
   refine Cf hb2 ?_
   refine r_skip ?_
   refine Ws ?_
   refine Sq ?_
   refine Rg 1 ?_
   refine Oa (.i 0) ?_
   refine Ni ?_
   refine Ws ?_
   refine r_ret ?_
   refine w_end (x := .i 0) (f := fun r => .i r) (.inr rfl) ?_ (.refl _) (Option.some.inj hM) hS
   exact (res_one (res_tmp (x := .i 0) rfl))
 ·refine Rg 30 ?_
  refine Of ((Wheel.cells a0)) ty_fo24_0 ?_
  refine Olp (.i a0.Round) ty_agg3 ty_sc3 ?_
  obtain ⟨r3, hr3, hM⟩ := bindE hM
  refine o_call (bs := [.i a0.Round, .i 1, .i 200]) (by decide) rfl rfl ((W_ref01_Within hr3).le (.k (.k (.k .nil)))) ?_
  refine o_not (e := r3) (by decide) rfl ?_
  refine Om (.b (!r3)) ?_
  rcases bft (!r3) with hb4 | hb4
  ·replace hM := ifT hM hb4
   refine On (want := false) hb4 ?_
   refine On (want := false) hb4 ?_
   refine On (want := false) hb4 ?_
   refine On (want := false) hb4 ?_
   refine Pt (.b true) hb4 ?_
   refine Om (.b true) ?_
   refine Og ?_
   refine Og ?_
   refine Og ?_
   refine Og ?_
   refine Og ?_
   refine Og ?_
   refine o_pickT (v := .b true) (e := true) (by decide) rfl rfl rfl ?_
   refine Om (.b true) ?_
   refine Og ?_
   refine Og ?_
   refine Og ?_
   refine Og ?_
   refine o_pickT (v := .b true) (e := true) (by decide) rfl rfl rfl ?_
   refine Om (.b true) ?_
   refine Og ?_
   refine Og ?_
   refine Og ?_
   refine Og ?_
   refine o_pickT (v := .b true) (e := true) (by decide) rfl rfl rfl ?_
   refine Ni ?_
   exact w_goto true (.k .nil) ⟨(hS.keep [] rfl).up (by omega), hM⟩
  ·replace hM := ifF hM hb4
   refine Oy (want := false) hb4 ?_
   refine Of ((Wheel.cells a0)) ty_fo24_1 ?_
   refine Oy (want := false) hb4 ?_
   refine Olp (.sl .no 1 (a0.Notches.map cI)) ty_agg22 ty_sc22 ?_
   refine Oy (want := false) hb4 ?_
   refine o_len (n := a0.Notches.length) (by decide) rfl (List.length_map _) ty_isl22 ?_
   refine Oy (want := false) hb4 ?_
   refine Oi (.b (decide ((a0.Notches.length : Int) > 12))) ?_
   refine Pf (.b (decide ((a0.Notches.length : Int) > 12))) hb4 ?_
   refine Om (.b (decide ((a0.Notches.length : Int) > 12))) ?_
   rcases bft (decide ((a0.Notches.length : Int) > 12)) with hb5 | hb5
   ·replace hM := ifT hM hb5
    refine On (want := false) hb5 ?_
    refine On (want := false) hb5 ?_
    refine On (want := false) hb5 ?_
    refine On (want := false) hb5 ?_
    refine On (want := false) hb5 ?_
    refine On (want := false) hb5 ?_
    refine Pt (.b true) hb5 ?_
    refine Om (.b true) ?_
    refine Og ?_
    refine Og ?_
    refine Og ?_
    refine Og ?_
    refine o_pickT (v := .b true) (e := true) (by decide) rfl rfl rfl ?_
    refine Om (.b true) ?_
    refine Og ?_
    refine Og ?_
    refine Og ?_
    refine Og ?_
    refine o_pickT (v := .b true) (e := true) (by decide) rfl rfl rfl ?_
    refine Ni ?_
    exact w_goto true (.k .nil) ⟨(hS.keep [] rfl).up (by omega), hM⟩
   ·replace hM := ifF hM hb5
    refine Oy (want := false) hb5 ?_
    refine Of ((Wheel.cells a0)) ty_fo24_1 ?_
    refine Oy (want := false) hb5 ?_
    refine Olp (.sl .no 1 (a0.Notches.map cI)) ty_agg22 ty_sc22 ?_
    refine Oy (want := false) hb5 ?_
    refine Of ((Wheel.cells a0)) ty_fo24_0 ?_
    refine Oy (want := false) hb5 ?_
    refine Olp (.i a0.Round) ty_agg3 ty_sc3 ?_
    refine Oy (want := false) hb5 ?_
    obtain ⟨r6, hr6, hM⟩ := bindE hM
    refine o_call (bs := [.sl .no 1 (a0.Notches.map cI), .i 1, .i a0.Round]) (by decide) rfl rfl ((W_ref01_Rising hr6).le (.k (.k (.k .nil)))) ?_
    refine Oy (want := false) hb5 ?_
    refine o_not (e := r6) (by decide) rfl ?_
    refine Pf (.b (!r6)) hb5 ?_
    refine Om (.b (!r6)) ?_
    rcases bft (!r6) with hb7 | hb7
    ·replace hM := ifT hM hb7
     refine On (want := false) hb7 ?_
     refine On (want := false) hb7 ?_
     refine On (want := false) hb7 ?_
     refine On (want := false) hb7 ?_
     refine Pt (.b true) hb7 ?_
     refine Om (.b true) ?_
     refine Og ?_
     refine Og ?_
     refine Og ?_
     refine Og ?_
     refine o_pickT (v := .b true) (e := true) (by decide) rfl rfl rfl ?_
     refine Ni ?_
     exact w_goto true (.k .nil) ⟨(hS.keep [] rfl).up (by omega), hM⟩
    ·replace hM := ifF hM hb7
     refine Oy (want := false) hb7 ?_
     refine Of ((Wheel.cells a0)) ty_fo24_2 ?_
     refine Oy (want := false) hb7 ?_
     refine Olp (.sl .no 1 (a0.Coins.map cI)) ty_agg22 ty_sc22 ?_
     refine Oy (want := false) hb7 ?_
     refine o_len (n := a0.Coins.length) (by decide) rfl (List.length_map _) ty_isl22 ?_
     refine Oy (want := false) hb7 ?_
     refine Oi (.b (decide ((a0.Coins.length : Int) > 4))) ?_
     refine Pf (.b (decide ((a0.Coins.length : Int) > 4))) hb7 ?_
     refine Om (.b (decide ((a0.Coins.length : Int) > 4))) ?_
     rcases bft (decide ((a0.Coins.length : Int) > 4)) with hb8 | hb8
     ·replace hM := ifT hM hb8
      refine On (want := false) hb8 ?_
      refine On (want := false) hb8 ?_
      refine On (want := false) hb8 ?_
      refine On (want := false) hb8 ?_
      refine Pt (.b true) hb8 ?_
      refine Ni ?_
      exact w_goto true (.k .nil) ⟨(hS.keep [] rfl).up (by omega), hM⟩
     ·replace hM := ifF hM hb8
      refine Oy (want := false) hb8 ?_
      refine Of ((Wheel.cells a0)) ty_fo24_2 ?_
      refine Oy (want := false) hb8 ?_
      refine Olp (.sl .no 1 (a0.Coins.map cI)) ty_agg22 ty_sc22 ?_
      refine Oy (want := false) hb8 ?_
      obtain ⟨r9, hr9, hM⟩ := bindE hM
      refine o_call (bs := [.sl .no 1 (a0.Coins.map cI), .i 1, .i 100]) (by decide) rfl rfl ((W_ref01_Rising hr9).le (.k (.k (.k .nil)))) ?_
      refine Oy (want := false) hb8 ?_
      refine o_not (e := r9) (by decide) rfl ?_
      refine Pf (.b (!r9)) hb8 ?_
      refine Ni ?_
      exact w_goto (!r9) (.k .nil) ⟨(hS.keep [] rfl).up (by omega), hM⟩
theorem W_ref01_In {n : Nat} {a0 : List Int} {a1 : Int} {r : Bool} (hM : ref01_In n a0 a1 = some r) : PureSat Try.prog 27 [.sl .no 1 (a0.map cI), .i a1] (.b r) := by
 refine pure_of_wp mixed Try.func27 rfl (by decide) Try.ntmps27 (by simp) ?pure fun H0 g hf => ?_
 case pure => exact .v _
 rw [frame0_of]
 change wpA _ _ _ _ (Fr.of [(0, .sl .no 1 (a0.map cI)), (1, .i a1)]) H0 g
 have hS := St.start hf
 refine Sq ?_
 refine Rg 1 ?_
 refine Oa (.b false) ?_
 refine Ni ?_
 refine Ws ?_
 refine w_join (J := Unit) (fun j => []) (fun j H' g' => St (· < g) H0 [] H' g' ∧ ref01_In_j1 = some r) ?_ ?_
 ·rintro _ H g1 ⟨hS, hM⟩
  change wpA _ _ _ _ (Fr.of []) _ _
  replace hS : St (· < g) H0 [] H g1 := hS
  replace hM : ref01_In_j1 = some r := hM
  refine Sq ?_
  refine Rg 1 ?_
  refine Oa (.b false) ?_
  refine Ni ?_
  refine Ws ?_
  refine r_ret ?_
  refine w_end (x := .b false) (f := fun r => .b r) (.inr rfl) ?_ (.refl _) (Option.some.inj hM) hS
  exact (res_one (res_tmp (x := .b false) rfl))
 ·refine Sq ?_
  refine Rg 1 ?_
  refine Oa (.i 0) ?_
  refine Ni ?_
  refine Ws ?_
  refine r_block ?_
  refine w_loop (V := Int) (fun v => [(0, .sl .no 1 (a0.map cI)), (1, .i a1), (5, .i v)]) (fun v m2 H' g' => St (· < g) H0 [] H' g' ∧ ref01_In_l1 a0 a1 m2 v = some r) (n := n) 0 (.k (.k (.k .nil))) ⟨(hS.keep [] rfl).up (by omega), hM⟩ ?_
  rintro v1 m2 H g2 ⟨hS, hM⟩
  obtain _ | m2 := m2
  ·exact nomatch (show none = some _ from hM)
  change wpA _ _ _ _ (Fr.of [(0, .sl .no 1 (a0.map cI)), (1, .i a1), (5, .i v1)]) _ _
  replace hS : St (· < g) H0 [] H g2 := hS
  replace hM : ref01_In_l1_b a0 a1 (ref01_In_l1 a0 a1 m2) v1 = some r := hM
  refine Sq ?_
  refine Sq ?_
  refine Rg 4 ?_
  refine Om (.i v1) ?_
  refine Om (.sl .no 1 (a0.map cI)) ?_
  refine o_len (n := a0.length) (by decide) rfl (List.length_map _) ty_isl22 ?_
  refine Oi (.b (decide (v1 < (a0.length : Int)))) ?_
  refine Ni ?_
  refine Ws ?_
  rcases bft (decide (v1 < (a0.length : Int))) with hb2 | hb2
  ·replace hM := ifT hM hb2
   refine Ct hb2 ?_
   refine r_skip ?_
   refine Ws ?_
   refine Sq ?_
   refine r_block ?_
   refine Sq ?_
   refine Rg 6 ?_
   refine Om (.sl .no 1 (a0.map cI)) ?_
   refine Om (.i v1) ?_
   obtain ⟨x3, hx3, hM⟩ := bindE hM
   refine o_index (xs := a0) (f := cI) (z := v1) (u := x3) (by decide) rfl rfl ty_es22 hx3 ?_
   refine Olp (.i x3) ty_agg3 ty_sc3 ?_
   refine Om (.i a1) ?_
   refine Oi (.b (x3 == a1)) ?_
   refine Ni ?_
   refine Ws ?_
   rcases bft (x3 == a1) with hb4 | hb4
   ·replace hM := ifT hM hb4
    refine Ct hb4 ?_
    refine Sq ?_
    refine Rg 1 ?_
    refine Oa (.b true) ?_
    refine Ni ?_
    refine Ws ?_
    refine r_ret ?_
    refine r_blk_ret ?_
    refine r_then_ret ?_
    refine w_round_ret ?_
    refine r_blk_ret ?_
    refine w_goto_ret ?_
    refine w_end (x := .b true) (f := fun r => .b r) (.inr rfl) ?_ (.refl _) (Option.some.inj hM) hS
    exact (res_one (res_tmp (x := .b true) rfl))
   ·replace hM := ifF hM hb4
    refine Cf hb4 ?_
    refine r_skip ?_
    refine r_blk_normal ?_
    refine Ws ?_
    refine Rg 3 ?_
    refine Om (.i v1) ?_
    refine Oi (.i (w64 (v1 + 1))) ?_
    refine Oa (.i (w64 (v1 + 1))) ?_
    refine Ni ?_
    exact w_round (w64 (v1 + 1)) (Nat.lt_succ_self _) (.k (.k (.k .nil))) ⟨(hS.keep [] rfl).up (by omega), hM⟩
  ·replace hM := ifF hM hb2
   refine Cf hb2 ?_
   refine r_exit ?_
   refine r_then_exit ?_
   refine w_round_exit ?_
   refine r_blk_exit ?_
   exact w_goto () .nil ⟨(hS.keep [] rfl).up (by omega), hM⟩
theorem W_ref01_Put {n : Nat} {a0 : Wheel} {a1 : Int} {a2 : Int} {r : Int × Int} (hM : ref01_Put n a0 a1 a2 = some r) : PureSat Try.prog 63 [.agg (Wheel.cells a0), .i a1, .i a2] (.tup [.i r.1, .i r.2]) := by
 refine pure_of_wp mixed Try.func63 rfl (by decide) Try.ntmps63 (by simp) ?pure fun H0 g hf => ?_
 case pure => exact .tup _ (pl_cons (.v _) (pl_cons (.v _) pl_nil))
 rw [frame0_of]
 change wpA _ _ _ _ (Fr.of [(0, .agg (Wheel.cells a0)), (1, .i a1), (2, .i a2)]) H0 g
 have hS := St.start hf
 refine Sq ?_
 refine Rg 3 ?_
 refine o_box (v := .agg (Wheel.cells a0)) (cs := (Wheel.cells a0)) hS (by decide) rfl rfl (by omega) fun H hS => ?_
 refine Oa (.i 0) ?_
 refine Oa (.i 0) ?_
 refine Ni ?_
 refine w_iceE (L' := []) 0 3 hS rfl rfl rfl fun H hS => ?_
 refine Ws ?_
 refine w_join (J := Int × Int) (fun j => [(1, .i j.1), (7, .i j.2)]) (fun j H' g' => St (· < g) H0 [] H' g' ∧ ref01_Put_j1 j.1 j.2 = some r) ?_ ?_
 ·rintro ⟨v1, v2⟩ H g1 ⟨hS, hM⟩
  change wpA _ _ _ _ (Fr.of [(1, .i v1), (7, .i v2)]) _ _
  replace hS : St (· < g) H0 [] H g1 := hS
  replace hM : ref01_Put_j1 v1 v2 = some r := hM
  refine Sq ?_
  refine Rg 4 ?_
  refine Om (.i v1) ?_
  refine Om (.i v2) ?_
  refine Oa (.i v1) ?_
  refine Oa (.i v2) ?_
  refine Ni ?_
  refine Ws ?_
  refine r_ret ?_
  refine w_end (x := .tup [.i v1, .i v2]) (f := fun r => .tup [.i r.1, .i r.2]) (.inr rfl) ?_ (.refl _) (Option.some.inj hM) hS
  exact (res_two (res_tmp (x := .i v1) rfl) (res_tmp (x := .i v2) rfl))
 ·refine Sq ?_
  refine Rg 1 ?_
  refine Oa (.i 0) ?_
  refine Ni ?_
  refine Ws ?_
  refine r_block ?_
  refine w_loop (V := Int × Int × Int) (fun v => [(1, .i v.1), (2, .i a2), (3, .ep (Wheel.cells a0)), (7, .i v.2.1), (8, .i v.2.2)]) (fun v m2 H' g' => St (· < g) H0 [] H' g' ∧ ref01_Put_l1 n a0 a2 m2 v.1 v.2.1 v.2.2 = some r) (n := n) (a1, 0, 0) (.k (.k (.k (.k (.k .nil))))) ⟨(hS.keep [] rfl).up (by omega), hM⟩ ?_
  rintro ⟨v3, v4, v5⟩ m2 H g2 ⟨hS, hM⟩
  obtain _ | m2 := m2
  ·exact nomatch (show none = some _ from hM)
  change wpA _ _ _ _ (Fr.of [(1, .i v3), (2, .i a2), (3, .ep (Wheel.cells a0)), (7, .i v4), (8, .i v5)]) _ _
  replace hS : St (· < g) H0 [] H g2 := hS
  replace hM : ref01_Put_l1_b n a0 a2 (ref01_Put_l1 n a0 a2 m2) v3 v4 v5 = some r := hM
  refine Sq ?_
  refine Sq ?_
  refine Rg 3 ?_
  refine Om (.i v5) ?_
  refine Om (.i a2) ?_
  refine Oi (.b (decide (v5 < a2))) ?_
  refine Ni ?_
  refine Ws ?_
  rcases bft (decide (v5 < a2)) with hb6 | hb6
  ·replace hM := ifT hM hb6
   refine Ct hb6 ?_
   refine r_skip ?_
   refine Ws ?_
   refine w_join (J := Int × Int) (fun j => [(1, .i j.1), (2, .i a2), (3, .ep (Wheel.cells a0)), (7, .i j.2), (8, .i v5)]) (fun j H' g' => St (· < g) H0 [] H' g' ∧ ref01_Put_j2 (ref01_Put_l1 n a0 a2 m2) v5 j.1 j.2 = some r) ?_ ?_
   ·rintro ⟨v7, v8⟩ H g3 ⟨hS, hM⟩
    change wpA _ _ _ _ (Fr.of [(1, .i v7), (2, .i a2), (3, .ep (Wheel.cells a0)), (7, .i v8), (8, .i v5)]) _ _
    replace hS : St (· < g) H0 [] H g3 := hS
    replace hM : ref01_Put_j2 (ref01_Put_l1 n a0 a2 m2) v5 v7 v8 = some r := hM
    refine Rg 3 ?_
    refine Om (.i v5) ?_
    refine Oi (.i (w64 (v5 + 1))) ?_
    refine Oa (.i (w64 (v5 + 1))) ?_
    refine Ni ?_
    exact w_round (v7, v8, w64 (v5 + 1)) (Nat.lt_succ_self _) (.k (.k (.k (.k (.k .nil))))) ⟨(hS.keep [] rfl).up (by omega), hM⟩
   ·refine r_block ?_
    refine Sq ?_
    refine Rg 3 ?_
    refine Om (.i v3) ?_
    refine Oi (.i (w64 (v3 + 1))) ?_
    refine Oa (.i (w64 (v3 + 1))) ?_
    refine Ni ?_
    refine Ws ?_
    refine w_join (J := Int) (fun j => [(1, .i (w64 (v3 + 1))), (2, .i a2), (3, .ep (Wheel.cells a0)), (7, .i j), (8, .i v5)]) (fun j H' g' => St (· < g) H0 [] H' g' ∧ ref01_Put_j3 (ref01_Put_l1 n a0 a2 m2) a0 v3 v5 j = some r) ?_ ?_
    ·rintro v9 H g4 ⟨hS, hM⟩
     change wpA _ _ _ _ (Fr.of [(1, .i (w64 (v3 + 1))), (2, .i a2), (3, .ep (Wheel.cells a0)), (7, .i v9), (8, .i v5)]) _ _
     replace hS : St (· < g) H0 [] H g4 := hS
     replace hM : ref01_Put_j3 (ref01_Put_l1 n a0 a2 m2) a0 v3 v5 v9 = some r := hM
     refine Sq ?_
     refine Rg 4 ?_
     refine Om (.i (w64 (v3 + 1))) ?_
     refine Of ((Wheel.cells a0)) ty_fo24_0 ?_
     refine Olp (.i a0.Round) ty_agg3 ty_sc3 ?_
     refine Oi (.b ((w64 (v3 + 1)) == a0.Round)) ?_
     refine Ni ?_
     refine Ws ?_
     rcases bft ((w64 (v3 + 1)) == a0.Round) with hb10 | hb10
     ·replace hM := ifT hM hb10
      refine Ct hb10 ?_
      refine Rg 1 ?_
      refine Oa (.i 0) ?_
      refine Ni ?_
      refine r_blk_normal ?_
      exact w_goto (0, v9) (.k (.k (.k (.k (.k .nil))))) ⟨(hS.keep [] rfl).up (by omega), hM⟩
     ·replace hM := ifF hM hb10
      refine Cf hb10 ?_
      refine r_skip ?_
      refine r_blk_normal ?_
      exact w_goto (w64 (v3 + 1), v9) (.k (.k (.k (.k (.k .nil))))) ⟨(hS.keep [] rfl).up (by omega), hM⟩
    ·refine Sq ?_
     refine Rg 4 ?_
     refine Of ((Wheel.cells a0)) ty_fo24_1 ?_
     refine Olp (.sl .no 1 (a0.Notches.map cI)) ty_agg22 ty_sc22 ?_
     refine Om (.i (w64 (v3 + 1))) ?_
     obtain ⟨r11, hr11, hM⟩ := bindE hM
     refine o_call (bs := [.sl .no 1 (a0.Notches.map cI), .i (w64 (v3 + 1))]) (by decide) rfl rfl ((W_ref01_In hr11).le (.k (.k .nil))) ?_
     refine Ni ?_
     refine Ws ?_
     rcases bft r11 with hb12 | hb12
     ·replace hM := ifT hM hb12
      refine Ct hb12 ?_
      refine Rg 3 ?_
      refine Om (.i v4) ?_
      refine Oi (.i (w64 (v4 + 1))) ?_
      refine Oa (.i (w64 (v4 + 1))) ?_
      refine Ni ?_
      exact w_goto (w64 (v4 + 1)) (.k (.k (.k (.k (.k .nil))))) ⟨(hS.keep [] rfl).up (by omega), hM⟩
     ·replace hM := ifF hM hb12
      refine Cf hb12 ?_
      refine r_skip ?_
      exact w_goto v4 (.k (.k (.k (.k (.k .nil))))) ⟨(hS.keep [] rfl).up (by omega), hM⟩
  ·replace hM := ifF hM hb6
   refine Cf hb6 ?_
   refine r_exit ?_
   refine r_then_exit ?_
   refine w_round_exit ?_
   refine r_blk_exit ?_
   exact w_goto (v3, v4) (.k (.k .nil)) ⟨(hS.keep [] rfl).up (by omega), hM⟩
theorem W_law01_isWheel {n : Nat} {a0 : Wheel} {r : Bool} (hM : law01_isWheel n a0 = some r) : PureSat Try.prog 22 [.agg (Wheel.cells a0)] (.b r) := by
 refine pure_of_wp mixed Try.func22 rfl (by decide) Try.ntmps22 (by simp) ?pure fun H0 g hf => ?_
 case pure => exact .v _
 rw [frame0_of]
 change wpA _ _ _ _ (Fr.of [(0, .agg (Wheel.cells a0))]) H0 g
 have hS := St.start hf
 refine Sq ?_
 refine Rg 2 ?_
 refine o_box (v := .agg (Wheel.cells a0)) (cs := (Wheel.cells a0)) hS (by decide) rfl rfl (by omega) fun H hS => ?_
 refine Oa (.b false) ?_
 refine Ni ?_
 refine w_iceE (L' := []) 0 1 hS rfl rfl rfl fun H hS => ?_
 refine Ws ?_
 refine w_join (J := Bool) (fun j => [(2, .b j)]) (fun j H' g' => St (· < g) H0 [] H' g' ∧ law01_isWheel_j1 j = some r) ?_ ?_
 ·rintro v1 H g1 ⟨hS, hM⟩
  change wpA _ _ _ _ (Fr.of [(2, .b v1)]) _ _
  replace hS : St (· < g) H0 [] H g1 := hS
  replace hM : law01_isWheel_j1 v1 = some r := hM
  refine r_ret ?_
  refine w_end (x := .b v1) (f := fun r => .b r) (.inr rfl) ?_ (.refl _) (Option.some.inj hM) hS
  exact (res_one (res_tmp (x := .b v1) rfl))
 ·refine Rg 9 ?_
  refine Olg (.agg (Wheel.cells a0)) ty_agg24 ?_
  obtain ⟨r2, hr2, hM⟩ := bindE hM
  refine o_call (bs := [.agg (Wheel.cells a0)]) (by decide) rfl rfl ((W_law01_far hr2).le (.k .nil)) ?_
  refine o_not (e := r2) (by decide) rfl ?_
  refine Om (.b (!r2)) ?_
  rcases bft (!r2) with hb3 | hb3
  ·replace hM := ifT hM hb3
   refine Oy (want := true) hb3 ?_
   refine Olg (.agg (Wheel.cells a0)) ty_agg24 ?_
   refine Oy (want := true) hb3 ?_
   obtain ⟨r4, hr4, hM⟩ := bindE hM
   refine o_call (bs := [.agg (Wheel.cells a0)]) (by decide) rfl rfl ((W_ref01_Check hr4).le (.k .nil)) ?_
   refine Oy (want := true) hb3 ?_
   refine Oi (.b (r4 == 0)) ?_
   refine Pt (.b (r4 == 0)) hb3 ?_
   refine Oa (.b (r4 == 0)) ?_
   refine Ni ?_
   exact w_goto (r4 == 0) (.k .nil) ⟨(hS.keep [] rfl).up (by omega), hM⟩
  ·replace hM := ifF hM hb3
   refine On (want := true) hb3 ?_
   refine On (want := true) hb3 ?_
   refine On (want := true) hb3 ?_
   refine Pf (.b false) hb3 ?_
   refine Oa (.b false) ?_
   refine Ni ?_
   exact w_goto false (.k .nil) ⟨(hS.keep [] rfl).up (by omega), hM⟩
theorem W_ref01_IsPlace {a0 : Wheel} {a1 : Int} {r : Bool} (hM : ref01_IsPlace a0 a1 = some r) : PureSat Try.prog 35 [.agg (Wheel.cells a0), .i a1] (.b r) := by
 refine pure_of_wp mixed Try.func35 rfl (by decide) Try.ntmps35 (by simp) ?pure fun H0 g hf => ?_
 case pure => exact .v _
 rw [frame0_of]
 change wpA _ _ _ _ (Fr.of [(0, .agg (Wheel.cells a0)), (1, .i a1)]) H0 g
 have hS := St.start hf
 refine Sq ?_
 refine Rg 2 ?_
 refine o_box (v := .agg (Wheel.cells a0)) (cs := (Wheel.cells a0)) hS (by decide) rfl rfl (by omega) fun H hS => ?_
 refine Oa (.b false) ?_
 refine Ni ?_
 refine w_iceE (L' := []) 0 2 hS rfl rfl rfl fun H hS => ?_
 refine Ws ?_
 refine Sq ?_
 refine Rg 6 ?_
 refine Om (.i a1) ?_
 refine Of ((Wheel.cells a0)) ty_fo24_0 ?_
 refine Olp (.i a0.Round) ty_agg3 ty_sc3 ?_
 refine Oi (.i (w64 (a0.Round - 1))) ?_
 obtain ⟨r1, hr1, hM⟩ := bindE hM
 refine o_call (bs := [.i a1, .i 0, .i (w64 (a0.Round - 1))]) (by decide) rfl rfl ((W_ref01_Within hr1).le (.k (.k (.k .nil)))) ?_
 refine Oa (.b r1) ?_
 refine Ni ?_
 refine w_next [(4, .b r1)] (.k .nil) ?_
 refine r_ret ?_
 refine w_end (x := .b r1) (f := fun r => .b r) (.inr rfl) ?_ (.refl _) (Option.some.inj hM) hS
 exact (res_one (res_tmp (x := .b r1) rfl))
theorem W_ref01_AreKinds {n : Nat} {a0 : Wheel} {a1 : List Int} {a2 : Int} {r : Bool} (hM : ref01_AreKinds n a0 a1 a2 = some r) : PureSat Try.prog 36 [.agg (Wheel.cells a0), .sl .no 1 (a1.map cI), .i a2] (.b r) := by
 refine pure_of_wp mixed Try.func36 rfl (by decide) Try.ntmps36 (by simp) ?pure fun H0 g hf => ?_
 case pure => exact .v _
 rw [frame0_of]
 change wpA _ _ _ _ (Fr.of [(0, .agg (Wheel.cells a0)), (1, .sl .no 1 (a1.map cI)), (2, .i a2)]) H0 g
 have hS := St.start hf
 refine Sq ?_
 refine Rg 2 ?_
 refine o_box (v := .agg (Wheel.cells a0)) (cs := (Wheel.cells a0)) hS (by decide) rfl rfl (by omega) fun H hS => ?_
 refine Oa (.b false) ?_
 refine Ni ?_
 refine w_iceE (L' := []) 0 3 hS rfl rfl rfl fun H hS => ?_
 refine Ws ?_
 refine w_join (J := Unit) (fun j => [(1, .sl .no 1 (a1.map cI))]) (fun j H' g' => St (· < g) H0 [] H' g' ∧ ref01_AreKinds_j1 a1 = some r) ?_ ?_
 ·rintro _ H g1 ⟨hS, hM⟩
  change wpA _ _ _ _ (Fr.of [(1, .sl .no 1 (a1.map cI))]) _ _
  replace hS : St (· < g) H0 [] H g1 := hS
  replace hM : ref01_AreKinds_j1 a1 = some r := hM
  refine Sq ?_
  refine Rg 4 ?_
  refine Om (.sl .no 1 (a1.map cI)) ?_
  refine o_len (n := a1.length) (by decide) rfl (List.length_map _) ty_isl22 ?_
  refine Oi (.b (decide ((a1.length : Int) ≤ 20))) ?_
  refine Oa (.b (decide ((a1.length : Int) ≤ 20))) ?_
  refine Ni ?_
  refine Ws ?_
  refine r_ret ?_
  refine w_end (x := .b (decide ((a1.length : Int) ≤ 20))) (f := fun r => .b r) (.inr rfl) ?_ (.refl _) (Option.some.inj hM) hS
  exact (res_one (res_tmp (x := .b (decide ((a1.length : Int) ≤ 20))) rfl))
 ·refine Sq ?_
  refine Rg 1 ?_
  refine Oa (.i 0) ?_
  refine Ni ?_
  refine Ws ?_
  refine r_block ?_
  refine w_loop (V := Int) (fun v => [(1, .sl .no 1 (a1.map cI)), (2, .i a2), (3, .ep (Wheel.cells a0)), (7, .i v)]) (fun v m2 H' g' => St (· < g) H0 [] H' g' ∧ ref01_AreKinds_l1 a0 a1 a2 m2 v = some r) (n := n) 0 (.k (.k (.k (.k .nil)))) ⟨(hS.keep [] rfl).up (by omega), hM⟩ ?_
  rintro v1 m2 H g2 ⟨hS, hM⟩
  obtain _ | m2 := m2
  ·exact nomatch (show none = some _ from hM)
  change wpA _ _ _ _ (Fr.of [(1, .sl .no 1 (a1.map cI)), (2, .i a2), (3, .ep (Wheel.cells a0)), (7, .i v1)]) _ _
  replace hS : St (· < g) H0 [] H g2 := hS
  replace hM : ref01_AreKinds_l1_b a0 a1 a2 (ref01_AreKinds_l1 a0 a1 a2 m2) v1 = some r := hM
  refine Sq ?_
  refine Sq ?_
  refine Rg 4 ?_
  refine Om (.i v1) ?_
  refine Om (.sl .no 1 (a1.map cI)) ?_
  refine o_len (n := a1.length) (by decide) rfl (List.length_map _) ty_isl22 ?_
  refine Oi (.b (decide (v1 < (a1.length : Int)))) ?_
  refine Ni ?_
  refine Ws ?_
  rcases bft (decide (v1 < (a1.length : Int))) with hb2 | hb2
  ·replace hM := ifT hM hb2
   refine Ct hb2 ?_
   refine r_skip ?_
   refine Ws ?_
   refine Sq ?_
   refine r_block ?_
   refine Sq ?_
   have hS0 := hS
   refine r_draw (n := 11) rfl (by kernel_rfl) ?_
   refine Om (.sl .no 1 (a1.map cI)) ?_
   refine Om (.i v1) ?_
   obtain ⟨x3, hx3, hM⟩ := bindE hM
   refine o_index (xs := a1) (f := cI) (z := v1) (u := x3) (by decide) rfl rfl ty_es22 hx3 ?_
   refine Olp (.i x3) ty_agg3 ty_sc3 ?_
   refine Om (.i a2) ?_
   refine Of ((Wheel.cells a0)) ty_fo24_2 ?_
   refine Olp (.sl .no 1 (a0.Coins.map cI)) ty_agg22 ty_sc22 ?_
   refine o_len (n := a0.Coins.length) (by decide) rfl (List.length_map _) ty_isl22 ?_
   refine Oi (.i (w64 ((a0.Coins.length : Int) - 1))) ?_
   obtain ⟨r4, hr4, hM⟩ := bindE hM
   refine o_call (bs := [.i x3, .i a2, .i (w64 ((a0.Coins.length : Int) - 1))]) (by decide) rfl rfl ((W_ref01_Within hr4).le (.k (.k (.k .nil)))) ?_
   refine o_not (e := r4) (by decide) rfl ?_
   refine Ni ?_
   refine Ws ?_
   rcases bft (!r4) with hb5 | hb5
   ·replace hM := ifT hM hb5
    refine Ct hb5 ?_
    refine Sq ?_
    refine Rg 1 ?_
    refine Oa (.b false) ?_
    refine Ni ?_
    refine Ws ?_
    refine r_ret ?_
    refine r_blk_ret ?_
    refine r_then_ret ?_
    refine w_round_ret ?_
    refine r_blk_ret ?_
    refine w_goto_ret ?_
    refine w_end (x := .b false) (f := fun r => .b r) (.inr rfl) ?_ (.refl _) (Option.some.inj hM) hS
    exact (res_one (res_tmp (x := .b false) rfl))
   ·replace hM := ifF hM hb5
    refine Cf hb5 ?_
    refine r_skip ?_
    refine r_blk_normal ?_
    refine Ws ?_
    refine Rg 3 ?_
    refine Om (.i v1) ?_
    refine Oi (.i (w64 (v1 + 1))) ?_
    refine Oa (.i (w64 (v1 + 1))) ?_
    refine Ni ?_
    exact w_round (w64 (v1 + 1)) (Nat.lt_succ_self _) (.k (.k (.k (.k .nil)))) ⟨(hS.keep [] rfl).up (by omega), hM⟩
  ·replace hM := ifF hM hb2
   refine Cf hb2 ?_
   refine r_exit ?_
   refine r_then_exit ?_
   refine w_round_exit ?_
   refine r_blk_exit ?_
   exact w_goto () (.k .nil) ⟨(hS.keep [] rfl).up (by omega), hM⟩
theorem W_ref01_What {n : Nat} {a0 : Wheel} {a1 : Int} {a2 : List Int} {r : (List Seen) × Int} (hM : ref01_What n a0 a1 a2 = some r) : PureSat Try.prog 37 [.agg (Wheel.cells a0), .i a1, .sl .no 1 (a2.map cI)] (.tup [.sl .no 2 (r.1.map Seen.cells), .i r.2]) := by
 refine pure_of_wp mixed Try.func37 rfl (by decide) Try.ntmps37 (by simp) ?pure fun H0 g hf => ?_
 case pure => exact .tup _ (pl_cons (.sl _ _ (pures_map (fun x => (pl_cons (.v _) (pl_cons (.v _) pl_nil))))) (pl_cons (.v _) pl_nil))
 rw [frame0_of]
 change wpA _ _ _ _ (Fr.of [(0, .agg (Wheel.cells a0)), (1, .i a1), (2, .sl .no 1 (a2.map cI))]) H0 g
 have hS := St.start hf
 refine Sq ?_
 refine Rg 3 ?_
 refine o_box (v := .agg (Wheel.cells a0)) (cs := (Wheel.cells a0)) hS (by decide) rfl rfl (by omega) fun H hS => ?_
 refine Oa (.sl .nil 0 []) ?_
 refine Oa (.i 0) ?_
 refine Ni ?_
 refine w_iceE (L' := []) 0 3 hS rfl rfl rfl fun H hS => ?_
 refine w_own [(1, .i a1), (2, .sl .no 1 (a2.map cI)), (3, .ep (Wheel.cells a0)), (6, .sl (.id (g + 3)) 2 (([] : List Seen).map Seen.cells))] 6 2 50 hS (by omega) (by decide) rfl (.k (.k (.k (.k .nil)))) fun H hS => ?_
 refine w_join (J := Int × (List Seen)) (fun j => [(1, .i j.1), (6, .sl (.id (g + 3)) 2 (j.2.map Seen.cells))]) (fun j H' g' => St (· < g) H0 [(g + 3, .row 50 j.2.length)] H' g' ∧ ref01_What_j1 j.1 j.2 = some r) ?_ ?_
 ·rintro ⟨v1, v2⟩ H g1 ⟨hS, hM⟩
  change wpA _ _ _ _ (Fr.of [(1, .i v1), (6, .sl (.id (g + 3)) 2 (v2.map Seen.cells))]) _ _
  replace hS : St (· < g) H0 [(g + 3, .row 50 v2.length)] H g1 := hS
  replace hM : ref01_What_j1 v1 v2 = some r := hM
  refine Sq ?_
  refine Rg 4 ?_
  refine Om (.sl (.id (g + 3)) 2 (v2.map Seen.cells)) ?_
  refine Om (.i v1) ?_
  refine Oa (.sl (.id (g + 3)) 2 (v2.map Seen.cells)) ?_
  refine Oa (.i v1) ?_
  refine Ni ?_
  refine Ws ?_
  refine r_ret ?_
  refine w_end (x := .tup [.sl (.id (g + 3)) 2 (v2.map Seen.cells), .i v1]) (f := fun r => .tup [.sl .no 2 (r.1.map Seen.cells), .i r.2]) (.inr rfl) ?_ (.tupL (.cons (.sl _ _ _) (.k .nil))) (Option.some.inj hM) hS
  exact (res_two (res_tmp (x := .sl (.id (g + 3)) 2 (v2.map Seen.cells)) rfl) (res_tmp (x := .i v1) rfl))
 ·refine Sq ?_
  refine Rg 1 ?_
  refine Oa (.i 0) ?_
  refine Ni ?_
  refine Ws ?_
  refine r_block ?_
  refine w_loop (V := Int × (List Seen) × Int) (fun v => [(1, .i v.1), (2, .sl .no 1 (a2.map cI)), (3, .ep (Wheel.cells a0)), (6, .sl (.id (g + 3)) 2 (v.2.1.map Seen.cells)), (8, .i v.2.2)]) (fun v m2 H' g' => St (· < g) H0 [(g + 3, .row 50 v.2.1.length)] H' g' ∧ ref01_What_l1 n a0 a2 m2 v.1 v.2.1 v.2.2 = some r) (n := n) (a1, ([] : List Seen), 0) (.k (.k (.k (.k (.k .nil))))) ⟨(hS.keep [true] rfl).up (by omega), hM⟩ ?_
  rintro ⟨v3, v4, v5⟩ m2 H g2 ⟨hS, hM⟩
  obtain _ | m2 := m2
  ·exact nomatch (show none = some _ from hM)
  change wpA _ _ _ _ (Fr.of [(1, .i v3), (2, .sl .no 1 (a2.map cI)), (3, .ep (Wheel.cells a0)), (6, .sl (.id (g + 3)) 2 (v4.map Seen.cells)), (8, .i v5)]) _ _
  replace hS : St (· < g) H0 [(g + 3, .row 50 v4.length)] H g2 := hS
  replace hM : ref01_What_l1_b n a0 a2 (ref01_What_l1 n a0 a2 m2) v3 v4 v5 = some r := hM
  refine Sq ?_
  refine Sq ?_
  refine Rg 4 ?_
  refine Om (.i v5) ?_
  refine Om (.sl .no 1 (a2.map cI)) ?_
  refine o_len (n := a2.length) (by decide) rfl (List.length_map _) ty_isl22 ?_
  refine Oi (.b (decide (v5 < (a2.length : Int)))) ?_
  refine Ni ?_
  refine Ws ?_
  rcases bft (decide (v5 < (a2.length : Int))) with hb6 | hb6
  ·replace hM := ifT hM hb6
   refine Ct hb6 ?_
   refine r_skip ?_
   refine Ws ?_
   refine Sq ?_
   refine r_block ?_
   refine Sq ?_
   have hS0 := hS
   refine r_draw (n := 16) rfl (by kernel_rfl) ?_
   refine Olg (.agg (Wheel.cells a0)) ty_agg24 ?_
   refine Om (.i v3) ?_
   refine Of ((Wheel.cells a0)) ty_fo24_2 ?_
   refine Olp (.sl .no 1 (a0.Coins.map cI)) ty_agg22 ty_sc22 ?_
   refine Om (.sl .no 1 (a2.map cI)) ?_
   refine Om (.i v5) ?_
   obtain ⟨x7, hx7, hM⟩ := bindE hM
   refine o_index (xs := a2) (f := cI) (z := v5) (u := x7) (by decide) rfl rfl ty_es22 hx7 ?_
   refine Olp (.i x7) ty_agg3 ty_sc3 ?_
   obtain ⟨x8, hx8, hM⟩ := bindE hM
   refine o_index (xs := a0.Coins) (f := cI) (z := x7) (u := x8) (by decide) rfl rfl ty_es22 hx8 ?_
   refine Olp (.i x8) ty_agg3 ty_sc3 ?_
   obtain ⟨r9, hr9, hM⟩ := bindE hM
   refine o_call (bs := [.agg (Wheel.cells a0), .i v3, .i x8]) (by decide) rfl rfl ((W_ref01_Put hr9).le (.k (.k (.k .nil)))) ?_
   refine Om (.tup [.i r9.1, .i r9.2]) ?_
   refine Ox (.i r9.1) ?_
   refine Ox (.i r9.2) ?_
   refine Oa (.i r9.1) ?_
   refine Oa (.i r9.2) ?_
   refine Ni ?_
   refine Ws ?_
   refine Rg 12 ?_
   refine Om (.sl (.id (g + 3)) 2 (v4.map Seen.cells)) ?_
   refine Om (.sl .no 1 (a2.map cI)) ?_
   refine Om (.i v5) ?_
   obtain ⟨x10, hx10, hM⟩ := bindE hM
   refine o_index (xs := a2) (f := cI) (z := v5) (u := x10) (by decide) rfl rfl ty_es22 hx10 ?_
   refine Olp (.i x10) ty_agg3 ty_sc3 ?_
   refine Om (.i r9.2) ?_
   refine o_build (cs := [.i x10, .i r9.2]) (by decide) ty_zero50 ty_pl50 rfl ?_
   refine o_buildSlice (es := [[.i x10, .i r9.2]]) hS (by decide) ty_es45 ty_el45 rfl ty_ef45 rfl (by decide) (by omega) fun H hS => ?_
   obtain ⟨l11, hl11, hM⟩ := bindE hM
   refine o_append (xs := v4) (ys := ([(⟨x10, r9.2⟩ : Seen)] : List Seen)) (zs := l11) (f := Seen.cells) (L' := [(g2 + 4 + 16 + 7, .row 50 1), (g + 3, .row 50 l11.length)]) 1 hS (by decide) rfl rfl rfl rfl .no ty_es45 ty_el45 ty_ef45 hl11 rfl fun H hS => ?_
   refine Om (.i r9.1) ?_
   refine Oa (.sl (.id (g + 3)) 2 (l11.map Seen.cells)) ?_
   refine Oa (.i r9.1) ?_
   refine Ni ?_
   refine r_blk_normal ?_
   replace hS := hS.keep (L' := [(g + 3, .row 50 l11.length)]) [false, true] rfl
   refine Ws ?_
   refine Rg 3 ?_
   refine Om (.i v5) ?_
   refine Oi (.i (w64 (v5 + 1))) ?_
   refine Oa (.i (w64 (v5 + 1))) ?_
   refine Ni ?_
   exact w_round (r9.1, l11, w64 (v5 + 1)) (Nat.lt_succ_self _) (.k (.k (.k (.k (.k .nil))))) ⟨(hS.keep [true] rfl).up (by omega), hM⟩
  ·replace hM := ifF hM hb6
   refine Cf hb6 ?_
   refine r_exit ?_
   refine r_then_exit ?_
   refine w_round_exit ?_
   refine r_blk_exit ?_
   exact w_goto (v3, v4) (.k (.k .nil)) ⟨(hS.keep [true] rfl).up (by omega), hM⟩
theorem W_coins_Tell_c1 {a0 : Wheel_} {r : Bool} (hM : coins_Tell_c1 a0 = some r) : PureSat Try.prog 90 [.agg (Wheel_.cells a0)] (.b r) := by
 refine pure_of_wp mixed Try.func90 rfl (by decide) Try.ntmps90 (by simp) ?pure fun H0 g hf => ?_
 case pure => exact .v _
 rw [frame0_of]
 change wpA _ _ _ _ (Fr.of [(0, .agg (Wheel_.cells a0))]) H0 g
 have hS := St.start hf
 refine Sq ?_
 refine Rg 2 ?_
 refine o_box (v := .agg (Wheel_.cells a0)) (cs := (Wheel_.cells a0)) hS (by decide) rfl rfl (by omega) fun H hS => ?_
 refine Oa (.b false) ?_
 refine Ni ?_
 replace hS := hS.keep (L' := []) [false] rfl
 refine Ws ?_
 refine Sq ?_
 refine Rg 1 ?_
 refine Oa (.b true) ?_
 refine Ni ?_
 refine w_next [(2, .b true)] (.k .nil) ?_
 refine r_ret ?_
 refine w_end (x := .b true) (f := fun r => .b r) (.inr rfl) ?_ (.refl _) (Option.some.inj hM) hS
 exact (res_one (res_tmp (x := .b true) rfl))
theorem W_coins_wheel_tells {n : Nat} {a0 : Wheel_} {a1 : List Int} {r : Bool} (hM : coins_wheel_tells n a0 a1 = some r) : PureSat Try.prog 91 [.agg (Wheel_.cells a0), .sl .no 1 (a1.map cI)] (.b r) := by
 refine pure_of_wp mixed Try.func91 rfl (by decide) Try.ntmps91 (by simp) ?pure fun H0 g hf => ?_
 case pure => exact .v _
 rw [frame0_of]
 change wpA _ _ _ _ (Fr.of [(0, .agg (Wheel_.cells a0)), (1, .sl .no 1 (a1.map cI))]) H0 g
 have hS := St.start hf
 refine Sq ?_
 refine Rg 2 ?_
 refine o_box (v := .agg (Wheel_.cells a0)) (cs := (Wheel_.cells a0)) hS (by decide) rfl rfl (by omega) fun H hS => ?_
 refine Oa (.b false) ?_
 refine Ni ?_
 refine w_iceE (L' := []) 0 2 hS rfl rfl rfl fun H hS => ?_
 refine Ws ?_
 refine Sq ?_
 refine Rg 2 ?_
 refine o_makeMap (kv := kvI) hS (by decide) ty_map134 (by omega) fun H hS => ?_
 refine Oa (.mp (g + 2 + 0)) ?_
 refine Ni ?_
 refine Ws ?_
 refine w_join (J := Unit) (fun j => []) (fun j H' g' => St (· < g) H0 [] H' g' ∧ coins_wheel_tells_j1 = some r) ?_ ?_
 ·rintro _ H g1 ⟨hS, hM⟩
  change wpA _ _ _ _ (Fr.of []) _ _
  replace hS : St (· < g) H0 [] H g1 := hS
  replace hM : coins_wheel_tells_j1 = some r := hM
  refine Sq ?_
  refine Rg 1 ?_
  refine Oa (.b true) ?_
  refine Ni ?_
  refine Ws ?_
  refine r_ret ?_
  refine w_end (x := .b true) (f := fun r => .b r) (.inr rfl) ?_ (.refl _) (Option.some.inj hM) hS
  exact (res_one (res_tmp (x := .b true) rfl))
 ·refine Sq ?_
  refine Rg 4 ?_
  refine Of ((Wheel_.cells a0)) ty_fo71_0 ?_
  refine Of ((Wheel_.cells a0)) ty_fo24_0 ?_
  refine Olp (.i a0.Wheel.Round) ty_agg3 ty_sc3 ?_
  refine Om (.i 0) ?_
  refine Ni ?_
  refine Ws ?_
  refine r_block ?_
  refine w_loop (V := Int × (List (Int × Int))) (fun v => [(1, .sl .no 1 (a1.map cI)), (2, .ep (Wheel_.cells a0)), (5, .mp (g + 2 + 0)), (18, .i a0.Wheel.Round), (19, .i v.1)]) (fun v m3 H' g' => St (· < g) H0 [(g + 2 + 0, .obj none (mapIs (mpv kvI v.2)))] H' g' ∧ coins_wheel_tells_l1 n a0 a1 m3 v.1 v.2 = some r) (n := n) (0, ([] : List (Int × Int))) (.k (.k (.k (.k (.k .nil))))) ⟨(hS.keep [true] rfl).up (by omega), hM⟩ ?_
  rintro ⟨v2, v3⟩ m3 H g3 ⟨hS, hM⟩
  obtain _ | m3 := m3
  ·exact nomatch (show none = some _ from hM)
  change wpA _ _ _ _ (Fr.of [(1, .sl .no 1 (a1.map cI)), (2, .ep (Wheel_.cells a0)), (5, .mp (g + 2 + 0)), (18, .i a0.Wheel.Round), (19, .i v2)]) _ _
  replace hS : St (· < g) H0 [(g + 2 + 0, .obj none (mapIs (mpv kvI v3)))] H g3 := hS
  replace hM : coins_wheel_tells_l1_b n a0 a1 (coins_wheel_tells_l1 n a0 a1 m3) v2 v3 = some r := hM
  refine Sq ?_
  refine Rg 1 ?_
  refine Oi (.b (decide (v2 < a0.Wheel.Round))) ?_
  refine Ni ?_
  refine Ws ?_
  refine Sq ?_
  rcases bft (decide (v2 < a0.Wheel.Round)) with hb4 | hb4
  ·replace hM := ifT hM hb4
   refine Ct hb4 ?_
   refine r_skip ?_
   refine Ws ?_
   refine w_join (J := (List (Int × Int))) (fun j => [(1, .sl .no 1 (a1.map cI)), (2, .ep (Wheel_.cells a0)), (5, .mp (g + 2 + 0)), (18, .i a0.Wheel.Round), (19, .i v2)]) (fun j H' g' => St (· < g) H0 [(g + 2 + 0, .obj none (mapIs (mpv kvI j)))] H' g' ∧ coins_wheel_tells_j2 (coins_wheel_tells_l1 n a0 a1 m3) v2 j = some r) ?_ ?_
   ·rintro v5 H g4 ⟨hS, hM⟩
    change wpA _ _ _ _ (Fr.of [(1, .sl .no 1 (a1.map cI)), (2, .ep (Wheel_.cells a0)), (5, .mp (g + 2 + 0)), (18, .i a0.Wheel.Round), (19, .i v2)]) _ _
    replace hS : St (· < g) H0 [(g + 2 + 0, .obj none (mapIs (mpv kvI v5)))] H g4 := hS
    replace hM : coins_wheel_tells_j2 (coins_wheel_tells_l1 n a0 a1 m3) v2 v5 = some r := hM
    refine Rg 2 ?_
    refine Oi (.i (w64 (v2 + 1))) ?_
    refine Om (.i (w64 (v2 + 1))) ?_
    refine Ni ?_
    exact w_round (w64 (v2 + 1), v5) (Nat.lt_succ_self _) (.k (.k (.k (.k (.k .nil))))) ⟨(hS.keep [true] rfl).up (by omega), hM⟩
   ·refine r_block ?_
    refine Sq ?_
    refine Rg 2 ?_
    refine Om (.i v2) ?_
    refine Oa (.i v2) ?_
    refine Ni ?_
    refine Ws ?_
    refine Sq ?_
    refine Rg 3 ?_
    refine Om (.i v2) ?_
    refine Oa (.i 0) ?_
    refine Oa (.i v2) ?_
    refine Ni ?_
    refine Ws ?_
    refine w_join (J := Int × Int) (fun j => [(1, .sl .no 1 (a1.map cI)), (2, .ep (Wheel_.cells a0)), (5, .mp (g + 2 + 0)), (7, .i j.1), (8, .i j.2), (18, .i a0.Wheel.Round), (19, .i v2)]) (fun j H' g' => St (· < g) H0 [(g + 2 + 0, .obj none (mapIs (mpv kvI v3)))] H' g' ∧ coins_wheel_tells_j3 (coins_wheel_tells_l1 n a0 a1 m3) v2 v3 j.1 j.2 = some r) ?_ ?_
    ·rintro ⟨v6, v7⟩ H g5 ⟨hS, hM⟩
     change wpA _ _ _ _ (Fr.of [(1, .sl .no 1 (a1.map cI)), (2, .ep (Wheel_.cells a0)), (5, .mp (g + 2 + 0)), (7, .i v6), (8, .i v7), (18, .i a0.Wheel.Round), (19, .i v2)]) _ _
     replace hS : St (· < g) H0 [(g + 2 + 0, .obj none (mapIs (mpv kvI v3)))] H g5 := hS
     replace hM : coins_wheel_tells_j3 (coins_wheel_tells_l1 n a0 a1 m3) v2 v3 v6 v7 = some r := hM
     refine Sq ?_
     refine Sq ?_
     refine Rg 8 ?_
     refine Om (.mp (g + 2 + 0)) ?_
     refine Om (.i v6) ?_
     obtain ⟨x8, hx8, hM⟩ := bindE hM
     refine o_lookupOk (kv := kvI) (ok := okI) (M := v3) (k := v6) (u := x8) 0 keys3 hS (by decide) rfl rfl rfl .no ty_map134 ty_mz134 hx8 ?_
     refine Om (.tup [.i x8, .b (mhas v3 v6)]) ?_
     refine Ox (.i x8) ?_
     refine Ox (.b (mhas v3 v6)) ?_
     refine Oa (.i x8) ?_
     refine Oa (.b (mhas v3 v6)) ?_
     refine Ni ?_
     refine Ws ?_
     refine w_join (J := Bool) (fun j => [(1, .sl .no 1 (a1.map cI)), (2, .ep (Wheel_.cells a0)), (5, .mp (g + 2 + 0)), (7, .i v6), (8, .i v7), (18, .i a0.Wheel.Round), (19, .i v2), (58, .b j)]) (fun j H' g' => St (· < g) H0 [(g + 2 + 0, .obj none (mapIs (mpv kvI v3)))] H' g' ∧ coins_wheel_tells_j4 (coins_wheel_tells_l1 n a0 a1 m3) v2 v3 v6 v7 j = some r) ?_ ?_
     ·rintro v9 H g6 ⟨hS, hM⟩
      change wpA _ _ _ _ (Fr.of [(1, .sl .no 1 (a1.map cI)), (2, .ep (Wheel_.cells a0)), (5, .mp (g + 2 + 0)), (7, .i v6), (8, .i v7), (18, .i a0.Wheel.Round), (19, .i v2), (58, .b v9)]) _ _
      replace hS : St (· < g) H0 [(g + 2 + 0, .obj none (mapIs (mpv kvI v3)))] H g6 := hS
      replace hM : coins_wheel_tells_j4 (coins_wheel_tells_l1 n a0 a1 m3) v2 v3 v6 v7 v9 = some r := hM
      rcases bft v9 with hb10 | hb10
      ·replace hM := ifT hM hb10
       refine Ct hb10 ?_
       refine Sq ?_
       refine Rg 1 ?_
       refine Oa (.b false) ?_
       refine Ni ?_
       replace hS := hS.keep (L' := []) [false] rfl
       refine Ws ?_
       refine r_ret ?_
       refine r_then_ret ?_
       refine r_blk_ret ?_
       refine w_goto_ret ?_
       refine w_round_ret ?_
       refine r_blk_ret ?_
       refine w_goto_ret ?_
       refine w_end (x := .b false) (f := fun r => .b r) (.inr rfl) ?_ (.refl _) (Option.some.inj hM) hS
       exact (res_one (res_tmp (x := .b false) rfl))
      ·replace hM := ifF hM hb10
       refine Cf hb10 ?_
       refine r_skip ?_
       refine Ws ?_
       refine Rg 4 ?_
       refine Om (.mp (g + 2 + 0)) ?_
       refine Om (.i v6) ?_
       refine Om (.i v7) ?_
       obtain ⟨l11, hl11, hM⟩ := bindE hM
       refine o_mapUpdate (kv := kvI) (ok := okI) (M := v3) (k := v6) (v := v7) (M' := l11) (L' := [(g + 2 + 0, .obj none (mapIs (mpv kvI l11)))]) 0 keys3 (.inl rfl) hS rfl rfl rfl rfl ty_map134 ty_mz134 hl11 rfl fun H hS => ?_
       refine Ni ?_
       refine r_blk_normal ?_
       exact w_goto l11 (.k (.k (.k (.k (.k .nil))))) ⟨(hS.keep [true] rfl).up (by omega), hM⟩
     ·refine Rg 6 ?_
      refine Om (.b (mhas v3 v6)) ?_
      refine Om (.b (mhas v3 v6)) ?_
      rcases bft (mhas v3 v6) with hb12 | hb12
      ·replace hM := ifT hM hb12
       refine Oy (want := true) hb12 ?_
       refine Om (.i x8) ?_
       refine Oy (want := true) hb12 ?_
       refine Om (.i v7) ?_
       refine Oy (want := true) hb12 ?_
       refine Oi (.b (x8 != v7)) ?_
       refine Pt (.b (x8 != v7)) hb12 ?_
       refine Ni ?_
       exact w_goto (x8 != v7) (.k (.k (.k (.k (.k (.k (.k (.k .nil)))))))) ⟨(hS.keep [true] rfl).up (by omega), hM⟩
      ·replace hM := ifF hM hb12
       refine On (want := true) hb12 ?_
       refine On (want := true) hb12 ?_
       refine On (want := true) hb12 ?_
       refine Pf (.b false) hb12 ?_
       refine Ni ?_
       exact w_goto false (.k (.k (.k (.k (.k (.k (.k (.k .nil)))))))) ⟨(hS.keep [true] rfl).up (by omega), hM⟩
    ·refine Sq ?_
     refine Rg 3 ?_
     refine Om (.sl .no 1 (a1.map cI)) ?_
     refine o_len (n := a1.length) (by decide) rfl (List.length_map _) ty_isl22 ?_
     refine Om (.i 0) ?_
     refine Ni ?_
     refine Ws ?_
     refine r_block ?_
     refine w_loop (V := Int × Int × Int) (fun v => [(1, .sl .no 1 (a1.map cI)), (2, .ep (Wheel_.cells a0)), (5, .mp (g + 2 + 0)), (7, .i v.1), (8, .i v.2.1), (18, .i a0.Wheel.Round), (19, .i v2), (23, .sl .no 1 (a1.map cI)), (24, .i (a1.length : Int)), (25, .i v.2.2)]) (fun v m7 H' g' => St (· < g) H0 [(g + 2 + 0, .obj none (mapIs (mpv kvI v3)))] H' g' ∧ coins_wheel_tells_l2 n (coins_wheel_tells_l1 n a0 a1 m3) a0 a1 v2 v3 m7 v.1 v.2.1 v.2.2 = some r) (n := n) (0, v2, 0) (.k (.k (.k (.k (.k (.k (.k (.k (.k (.k .nil)))))))))) ⟨(hS.keep [true] rfl).up (by omega), hM⟩ ?_
     rintro ⟨v13, v14, v15⟩ m7 H g7 ⟨hS, hM⟩
     obtain _ | m7 := m7
     ·exact nomatch (show none = some _ from hM)
     change wpA _ _ _ _ (Fr.of [(1, .sl .no 1 (a1.map cI)), (2, .ep (Wheel_.cells a0)), (5, .mp (g + 2 + 0)), (7, .i v13), (8, .i v14), (18, .i a0.Wheel.Round), (19, .i v2), (23, .sl .no 1 (a1.map cI)), (24, .i (a1.length : Int)), (25, .i v15)]) _ _
     replace hS : St (· < g) H0 [(g + 2 + 0, .obj none (mapIs (mpv kvI v3)))] H g7 := hS
     replace hM : coins_wheel_tells_l2_b n (coins_wheel_tells_l1 n a0 a1 m3) a0 a1 v2 v3 (coins_wheel_tells_l2 n (coins_wheel_tells_l1 n a0 a1 m3) a0 a1 v2 v3 m7) v13 v14 v15 = some r := hM
     refine Sq ?_
     refine Rg 1 ?_
     refine Oi (.b (decide (v15 < (a1.length : Int)))) ?_
     refine Ni ?_
     refine Ws ?_
     refine Sq ?_
     rcases bft (decide (v15 < (a1.length : Int))) with hb16 | hb16
     ·replace hM := ifT hM hb16
      refine Ct hb16 ?_
      refine r_skip ?_
      refine Ws ?_
      refine Sq ?_
      refine r_block ?_
      refine Sq ?_
      refine Rg 3 ?_
      obtain ⟨x17, hx17, hM⟩ := bindE hM
      refine o_index (xs := a1) (f := cI) (z := v15) (u := x17) (by decide) rfl rfl ty_es22 hx17 ?_
      refine Olp (.i x17) ty_agg3 ty_sc3 ?_
      refine Oa (.i x17) ?_
      refine Ni ?_
      refine Ws ?_
      refine Sq ?_
      have hS0 := hS
      refine r_draw (n := 14) rfl (by kernel_rfl) ?_
      refine Olg (.agg (Wheel_.cells a0)) ty_agg71 ?_
      refine Om (.i v14) ?_
      refine Of ((Wheel_.cells a0)) ty_fo71_0 ?_
      refine Of ((Wheel_.cells a0)) ty_fo24_2 ?_
      refine Olp (.sl .no 1 (a0.Wheel.Coins.map cI)) ty_agg22 ty_sc22 ?_
      refine Om (.i x17) ?_
      obtain ⟨x18, hx18, hM⟩ := bindE hM
      refine o_index (xs := a0.Wheel.Coins) (f := cI) (z := x17) (u := x18) (by decide) rfl rfl ty_es22 hx18 ?_
      refine Olp (.i x18) ty_agg3 ty_sc3 ?_
      obtain ⟨r19, hr19, hM⟩ := bindE hM
      refine o_call (bs := [.agg (Wheel_.cells a0), .i v14, .i x18]) (by decide) rfl rfl ((W_coins_wheel_turn hr19).le (.k (.k (.k .nil)))) ?_
      refine Om (.tup [.i r19.1, .i r19.2]) ?_
      refine Ox (.i r19.1) ?_
      refine Ox (.i r19.2) ?_
      refine Oa (.i r19.1) ?_
      refine Oa (.i r19.2) ?_
      refine Ni ?_
      refine Ws ?_
      refine Rg 7 ?_
      refine Om (.i v13) ?_
      refine Oi (.i (w64 (v13 * 2401))) ?_
      refine Om (.i r19.2) ?_
      refine Oi (.i (w64 ((w64 (v13 * 2401)) + r19.2))) ?_
      refine Om (.i r19.1) ?_
      refine Oa (.i (w64 ((w64 (v13 * 2401)) + r19.2))) ?_
      refine Oa (.i r19.1) ?_
      refine Ni ?_
      refine r_blk_normal ?_
      refine Ws ?_
      refine Rg 2 ?_
      refine Oi (.i (w64 (v15 + 1))) ?_
      refine Om (.i (w64 (v15 + 1))) ?_
      refine Ni ?_
      exact w_round (w64 ((w64 (v13 * 2401)) + r19.2), r19.1, w64 (v15 + 1)) (Nat.lt_succ_self _) (.k (.k (.k (.k (.k (.k (.k (.k (.k (.k .nil)))))))))) ⟨(hS.keep [true] rfl).up (by omega), hM⟩
     ·replace hM := ifF hM hb16
      refine Cf hb16 ?_
      refine r_exit ?_
      refine r_then_exit ?_
      refine w_round_exit ?_
      refine r_blk_exit ?_
      exact w_goto (v13, v14) (.k (.k (.k (.k (.k (.k (.k .nil))))))) ⟨(hS.keep [true] rfl).up (by omega), hM⟩
  ·replace hM := ifF hM hb4
   refine Cf hb4 ?_
   refine r_exit ?_
   refine r_then_exit ?_
   refine w_round_exit ?_
   refine r_blk_exit ?_
   exact w_goto () .nil ⟨(hS.keep [false] rfl).up (by omega), hM⟩
theorem W_slices_Clone_int {a0 : List Int} {r : List Int} (hM : slices_Clone_int a0 = some r) : FreshSat Try.prog 92 [.sl .no 1 (a0.map cI)] 3 1 (r.map cI) := by
 have hr : r = a0 := by
  unfold slices_Clone_int app at hM
  split at hM
  ·injection hM with hM; rw [← hM]; rfl
  ·cases hM
 refine fresh_of_wp mixed Try.func92 rfl (by decide) Try.ntmps92 (by simp) ?pure fun H0 g hf => ?_
 case pure => exact pures_map (fun x => (pl_cons (.v _) pl_nil))
 rw [frame0_of]
 change wpA _ _ _ _ (Fr.of [(0, .sl .no 1 (a0.map cI))]) H0 g
 have hS := St.start hf
 refine Sq ?_
 refine Rg 1 ?_
 refine Oa (.sl .nil 0 []) ?_
 refine Ni ?_
 refine Ws ?_
 refine Sq ?_
 refine Sq ?_
 refine Rg 2 ?_
 refine Om (.sl .no 1 (a0.map cI)) ?_
 refine o_nil (t := 22) (tg := .no) (k := 1) (es := a0.map cI) (e := true) (by decide) rfl rfl rfl rfl ty_isl22 (fun _ => ?_) (fun hnil => ?_)
 ·refine Ni ?_
  refine Ws ?_
  refine w_condF (e := false == true) rfl rfl ?_
  refine r_skip ?_
  refine Ws ?_
  refine Sq ?_
  refine Rg 4 ?_
  refine o_buildSlice (es := []) hS (by decide) ty_es22 ty_el22 rfl ty_ef22 rfl (by decide) (by omega) fun H hS => ?_
  refine Om (.sl .no 1 (a0.map cI)) ?_
  refine o_append (xs := ([] : List Int)) (ys := a0) (zs := r) (f := cI) (L' := [(g + 1 + 2 + 0, .row 3 r.length)]) 0 hS (by decide) rfl rfl rfl rfl .no ty_es22 ty_el22 ty_ef22 hM rfl fun H hS => ?_
  refine Oa (.sl (.id (g + 1 + 2 + 0)) 1 (r.map cI)) ?_
  refine Ni ?_
  refine Ws ?_
  refine r_ret ?_
  refine w_endF (j := g + 1 + 2 + 0) 0 (.inr rfl) ?_ hS rfl (List.length_map _).symm
  exact res_one (res_tmp rfl)
 ·refine Ni ?_
  refine Ws ?_
  refine w_condT (e := true == true) rfl rfl ?_
  refine Sq ?_
  refine Rg 1 ?_
  refine Oa (.sl .nil 0 []) ?_
  refine Ni ?_
  refine Ws ?_
  refine r_ret ?_
  refine r_then_ret ?_
  refine w_endN (k' := 0) (.inr rfl) ?_ hS (by decide) (by rw [hr]; exact hnil)
  exact res_one (res_tmp rfl)
theorem W_coins_Tell {n : Nat} {a0 : Wheel} {r : (List Int) × Int} (hM : coins_Tell n a0 = some r) : PureSat Try.prog 50 [.agg (Wheel.cells a0)] (.tup [.sl .no 1 (r.1.map cI), .i r.2]) := by
 refine pure_of_wp mixed Try.func50 rfl (by decide) Try.ntmps50 (by simp) ?pure fun H0 g hf => ?_
 case pure => exact .tup _ (pl_cons (.sl _ _ (pures_map (fun x => (pl_cons (.v _) pl_nil)))) (pl_cons (.v _) pl_nil))
 rw [frame0_of]
 change wpA _ _ _ _ (Fr.of [(0, .agg (Wheel.cells a0))]) H0 g
 have hS := St.start hf
 refine Sq ?_
 refine Rg 3 ?_
 refine o_box (v := .agg (Wheel.cells a0)) (cs := (Wheel.cells a0)) hS (by decide) rfl rfl (by omega) fun H hS => ?_
 refine Oa (.sl .nil 0 []) ?_
 refine Oa (.i 0) ?_
 refine Ni ?_
 refine w_iceE (L' := []) 0 1 hS rfl rfl rfl fun H hS => ?_
 refine Ws ?_
 refine Sq ?_
 refine Rg 8 ?_
 refine Olg (.agg (Wheel.cells a0)) ty_agg24 ?_
 obtain ⟨r1, hr1, hM⟩ := bindE hM
 refine o_call (bs := [.agg (Wheel.cells a0), .fn (.func 90) [] []]) (by decide) rfl rfl (pure_of_hsat ((W_coins_open (Lo := (fun (_ : Unit) => []))  (fun _ _ => kl_nil) (fun _ => List.nodup_nil) (fun _ => inb_nil) (aF := (fun (x0 : Wheel_) (_ : Unit) => (coins_Tell_c1 x0).map fun y => (y, ()))) (fun _ H hH => (.fn _ _ _ ai_nil ai_nil)) rfl (fun h => csat_val (W_coins_Tell_c1 (pure_some h))) hr1).le (.k (.k .nil)))) ?_
 refine Om (.tup [.agg (Wheel_.cells r1.1.1), .i r1.1.2]) ?_
 refine Ox (.agg (Wheel_.cells r1.1.1)) ?_
 refine Ox (.i r1.1.2) ?_
 refine o_alloc hS (by decide) ty_zero71 (by omega) fun H hS => ?_
 refine o_store (v := .agg (Wheel_.cells r1.1.1)) (ns := (Wheel_.cells r1.1.1)) (L' := [(g + 3 + 5, .cells (Wheel_.cells r1.1.1))]) 0 hS rfl rfl .no rfl rfl ty_var71 nlb rfl fun H hS => ?_
 refine Oa (.i r1.1.2) ?_
 refine Ni ?_
 refine w_iceE (L' := []) 0 4 hS rfl rfl rfl fun H hS => ?_
 refine Ws ?_
 refine Sq ?_
 refine Sq ?_
 refine Rg 2 ?_
 refine Om (.i r1.1.2) ?_
 refine Oi (.b (r1.1.2 != 0)) ?_
 refine Ni ?_
 refine Ws ?_
 rcases bft (r1.1.2 != 0) with hb2 | hb2
 ·replace hM := ifT hM hb2
  refine Ct hb2 ?_
  refine Sq ?_
  refine Rg 3 ?_
  refine Om (.i r1.1.2) ?_
  refine Oa (.sl .nil 0 []) ?_
  refine Oa (.i r1.1.2) ?_
  refine Ni ?_
  refine Ws ?_
  refine r_ret ?_
  refine r_then_ret ?_
  refine w_end (x := .tup [.sl .nil 0 [], .i r1.1.2]) (f := fun r => .tup [.sl .no 1 (r.1.map cI), .i r.2]) (.inr rfl) ?_ (.tupL (.cons (.sl0 .nil 1 0) (.k .nil))) (Option.some.inj hM) hS
  exact (res_two (res_tmp (x := .sl .nil 0 []) rfl) (res_tmp (x := .i r1.1.2) rfl))
 ·replace hM := ifF hM hb2
  refine Cf hb2 ?_
  refine r_skip ?_
  refine Ws ?_
  refine Sq ?_
  refine Rg 2 ?_
  refine o_buildSliceW (es := [[.sl .nil 0 []]]) (es' := [[.sl .no 1 (([] : List Int).map cI)]]) hS (by decide) ty_es116 ty_el116 rfl ty_ef116 rfl (by decide) (by omega) (le_elems (lell_one (.cons (.sl0 _ _ _) .nil))) fun H hS => ?_
  refine Oa (.sl (.id (g + 3 + 8 + 2 + 0)) 1 (([([] : List Int)] : List (List Int)).map (cL 1 cI))) ?_
  refine Ni ?_
  refine Ws ?_
  refine w_join (J := Unit) (fun j => []) (fun j H' g' => St (· < g) H0 [] H' g' ∧ coins_Tell_j1 = some r) ?_ ?_
  ·rintro _ H g1 ⟨hS, hM⟩
   change wpA _ _ _ _ (Fr.of []) _ _
   replace hS : St (· < g) H0 [] H g1 := hS
   replace hM : coins_Tell_j1 = some r := hM
   refine Sq ?_
   refine Rg 2 ?_
   refine Oa (.sl .nil 0 []) ?_
   refine Oa (.i 3) ?_
   refine Ni ?_
   refine Ws ?_
   refine r_ret ?_
   refine w_end (x := .tup [.sl .nil 0 [], .i 3]) (f := fun r => .tup [.sl .no 1 (r.1.map cI), .i r.2]) (.inr rfl) ?_ (.tupL (.cons (.sl0 .nil 1 0) (.k .nil))) (Option.some.inj hM) hS
   exact (res_two (res_tmp (x := .sl .nil 0 []) rfl) (res_tmp (x := .i 3) rfl))
  ·refine Sq ?_
   refine Rg 1 ?_
   refine Om (.i 0) ?_
   refine Ni ?_
   refine Ws ?_
   refine r_block ?_
   refine w_loop (V := (List (List Int)) × Int) (fun v => [(1, .ep (Wheel.cells a0)), (4, .ep (Wheel_.cells r1.1.1)), (6, .sl .no 1 (v.1.map (cL 1 cI))), (20, .i v.2)]) (fun v m3 H' g' => St (· < g) H0 [] H' g' ∧ coins_Tell_l1 n a0 r1 m3 v.1 v.2 = some r) (n := n) (([([] : List Int)] : List (List Int)), 0) (.k (.k (.cons (.sl _ _ _) (.k .nil)))) ⟨(hS.keep [false] rfl).up (by omega), hM⟩ ?_
   rintro ⟨v5, v6⟩ m3 H g3 ⟨hS, hM⟩
   obtain _ | m3 := m3
   ·exact nomatch (show none = some _ from hM)
   change wpA _ _ _ _ (Fr.of [(1, .ep (Wheel.cells a0)), (4, .ep (Wheel_.cells r1.1.1)), (6, .sl .no 1 (v5.map (cL 1 cI))), (20, .i v6)]) _ _
   replace hS : St (· < g) H0 [] H g3 := hS
   replace hM : coins_Tell_l1_b n a0 r1 (coins_Tell_l1 n a0 r1 m3) v5 v6 = some r := hM
   refine Sq ?_
   refine Rg 1 ?_
   refine Oi (.b (decide (v6 < 5))) ?_
   refine Ni ?_
   refine Ws ?_
   refine Sq ?_
   rcases bft (decide (v6 < 5)) with hb7 | hb7
   ·replace hM := ifT hM hb7
    refine Ct hb7 ?_
    refine r_skip ?_
    refine Ws ?_
    refine w_join (J := (List (List Int))) (fun j => [(1, .ep (Wheel.cells a0)), (4, .ep (Wheel_.cells r1.1.1)), (6, .sl (.id (g3 + 1 + 1)) 1 (j.map (cL 1 cI))), (20, .i v6)]) (fun j H' g' => St (· < g) H0 [(g3 + 1 + 1, .row 22 j.length)] H' g' ∧ coins_Tell_j2 (coins_Tell_l1 n a0 r1 m3) v6 j = some r) ?_ ?_
    ·rintro v8 H g4 ⟨hS, hM⟩
     change wpA _ _ _ _ (Fr.of [(1, .ep (Wheel.cells a0)), (4, .ep (Wheel_.cells r1.1.1)), (6, .sl (.id (g3 + 1 + 1)) 1 (v8.map (cL 1 cI))), (20, .i v6)]) _ _
     replace hS : St (· < g) H0 [(g3 + 1 + 1, .row 22 v8.length)] H g4 := hS
     replace hM : coins_Tell_j2 (coins_Tell_l1 n a0 r1 m3) v6 v8 = some r := hM
     refine Rg 2 ?_
     refine Oi (.i (w64 (v6 + 1))) ?_
     refine Om (.i (w64 (v6 + 1))) ?_
     refine Ni ?_
     exact w_round (v8, w64 (v6 + 1)) (Nat.lt_succ_self _) (.k (.k (.cons (.sl _ _ _) (.k .nil)))) ⟨(hS.keep [false] rfl).up (by omega), hM⟩
    ·refine r_block ?_
     refine Sq ?_
     refine Rg 1 ?_
     refine Oa (.sl .nil 0 []) ?_
     refine Ni ?_
     refine w_own [(1, .ep (Wheel.cells a0)), (4, .ep (Wheel_.cells r1.1.1)), (6, .sl .no 1 (v5.map (cL 1 cI))), (7, .sl (.id (g3 + 1 + 1)) 1 (([] : List (List Int)).map (cL 1 cI))), (20, .i v6)] 7 1 22 hS (by omega) (by decide) rfl (.k (.k (.k (.k (.k .nil))))) fun H hS => ?_
     refine w_join (J := (List (List Int))) (fun j => [(1, .ep (Wheel.cells a0)), (4, .ep (Wheel_.cells r1.1.1)), (7, .sl (.id (g3 + 1 + 1)) 1 (j.map (cL 1 cI))), (20, .i v6)]) (fun j H' g' => St (· < g) H0 [(g3 + 1 + 1, .row 22 j.length)] H' g' ∧ coins_Tell_j3 (coins_Tell_l1 n a0 r1 m3) v6 j = some r) ?_ ?_
     ·rintro v9 H g5 ⟨hS, hM⟩
      change wpA _ _ _ _ (Fr.of [(1, .ep (Wheel.cells a0)), (4, .ep (Wheel_.cells r1.1.1)), (7, .sl (.id (g3 + 1 + 1)) 1 (v9.map (cL 1 cI))), (20, .i v6)]) _ _
      replace hS : St (· < g) H0 [(g3 + 1 + 1, .row 22 v9.length)] H g5 := hS
      replace hM : coins_Tell_j3 (coins_Tell_l1 n a0 r1 m3) v6 v9 = some r := hM
      refine Rg 2 ?_
      refine Om (.sl (.id (g3 + 1 + 1)) 1 (v9.map (cL 1 cI))) ?_
      refine Oa (.sl (.id (g3 + 1 + 1)) 1 (v9.map (cL 1 cI))) ?_
      refine Ni ?_
      refine r_blk_normal ?_
      exact w_goto v9 (.k (.k (.k (.k .nil)))) ⟨(hS.keep [true] rfl).up (by omega), hM⟩
     ·refine Sq ?_
      refine Rg 3 ?_
      refine Om (.sl .no 1 (v5.map (cL 1 cI))) ?_
      refine o_len (n := v5.length) (by decide) rfl (List.length_map _) ty_isl116 ?_
      refine Om (.i 0) ?_
      refine Ni ?_
      refine Ws ?_
      refine r_block ?_
      refine w_loop (V := (List (List Int)) × Int) (fun v => [(1, .ep (Wheel.cells a0)), (4, .ep (Wheel_.cells r1.1.1)), (7, .sl (.id (g3 + 1 + 1)) 1 (v.1.map (cL 1 cI))), (20, .i v6), (22, .sl .no 1 (v5.map (cL 1 cI))), (23, .i (v5.length : Int)), (24, .i v.2)]) (fun v m6 H' g' => St (· < g) H0 [(g3 + 1 + 1, .row 22 v.1.length)] H' g' ∧ coins_Tell_l2 n (coins_Tell_l1 n a0 r1 m3) a0 r1 v5 v6 m6 v.1 v.2 = some r) (n := n) (([] : List (List Int)), 0) (.k (.k (.k (.k (.k (.k (.k .nil))))))) ⟨(hS.keep [true] rfl).up (by omega), hM⟩ ?_
      rintro ⟨v10, v11⟩ m6 H g6 ⟨hS, hM⟩
      obtain _ | m6 := m6
      ·exact nomatch (show none = some _ from hM)
      change wpA _ _ _ _ (Fr.of [(1, .ep (Wheel.cells a0)), (4, .ep (Wheel_.cells r1.1.1)), (7, .sl (.id (g3 + 1 + 1)) 1 (v10.map (cL 1 cI))), (20, .i v6), (22, .sl .no 1 (v5.map (cL 1 cI))), (23, .i (v5.length : Int)), (24, .i v11)]) _ _
      replace hS : St (· < g) H0 [(g3 + 1 + 1, .row 22 v10.length)] H g6 := hS
      replace hM : coins_Tell_l2_b n (coins_Tell_l1 n a0 r1 m3) a0 r1 v5 v6 (coins_Tell_l2 n (coins_Tell_l1 n a0 r1 m3) a0 r1 v5 v6 m6) v10 v11 = some r := hM
      refine Sq ?_
      refine Rg 1 ?_
      refine Oi (.b (decide (v11 < (v5.length : Int)))) ?_
      refine Ni ?_
      refine Ws ?_
      refine Sq ?_
      rcases bft (decide (v11 < (v5.length : Int))) with hb12 | hb12
      ·replace hM := ifT hM hb12
       refine Ct hb12 ?_
       refine r_skip ?_
       refine Ws ?_
       refine w_join (J := (List (List Int))) (fun j => [(1, .ep (Wheel.cells a0)), (4, .ep (Wheel_.cells r1.1.1)), (7, .sl (.id (g3 + 1 + 1)) 1 (j.map (cL 1 cI))), (20, .i v6), (22, .sl .no 1 (v5.map (cL 1 cI))), (23, .i (v5.length : Int)), (24, .i v11)]) (fun j H' g' => St (· < g) H0 [(g3 + 1 + 1, .row 22 j.length)] H' g' ∧ coins_Tell_j4 (coins_Tell_l2 n (coins_Tell_l1 n a0 r1 m3) a0 r1 v5 v6 m6) v11 j = some r) ?_ ?_
       ·rintro v13 H g7 ⟨hS, hM⟩
        change wpA _ _ _ _ (Fr.of [(1, .ep (Wheel.cells a0)), (4, .ep (Wheel_.cells r1.1.1)), (7, .sl (.id (g3 + 1 + 1)) 1 (v13.map (cL 1 cI))), (20, .i v6), (22, .sl .no 1 (v5.map (cL 1 cI))), (23, .i (v5.length : Int)), (24, .i v11)]) _ _
        replace hS : St (· < g) H0 [(g3 + 1 + 1, .row 22 v13.length)] H g7 := hS
        replace hM : coins_Tell_j4 (coins_Tell_l2 n (coins_Tell_l1 n a0 r1 m3) a0 r1 v5 v6 m6) v11 v13 = some r := hM
        refine Rg 2 ?_
        refine Oi (.i (w64 (v11 + 1))) ?_
        refine Om (.i (w64 (v11 + 1))) ?_
        refine Ni ?_
        exact w_round (v13, w64 (v11 + 1)) (Nat.lt_succ_self _) (.k (.k (.k (.k (.k (.k (.k .nil))))))) ⟨(hS.keep [true] rfl).up (by omega), hM⟩
       ·refine r_block ?_
        refine Sq ?_
        refine Rg 3 ?_
        obtain ⟨x14, hx14, hM⟩ := bindE hM
        refine o_index (xs := v5) (f := (cL 1 cI)) (z := v11) (u := x14) (by decide) rfl rfl ty_es116 hx14 ?_
        refine Olp (.sl .no 1 (x14.map cI)) ty_agg22 ty_sc22 ?_
        refine Oa (.sl .no 1 (x14.map cI)) ?_
        refine Ni ?_
        refine Ws ?_
        refine Sq ?_
        refine Sq ?_
        refine Rg 3 ?_
        refine Olg (.agg (Wheel_.cells r1.1.1)) ty_agg71 ?_
        refine Om (.sl .no 1 (x14.map cI)) ?_
        obtain ⟨r15, hr15, hM⟩ := bindE hM
        refine o_call (bs := [.agg (Wheel_.cells r1.1.1), .sl .no 1 (x14.map cI)]) (by decide) rfl rfl ((W_coins_wheel_tells hr15).le (.k (.k .nil))) ?_
        refine Ni ?_
        refine Ws ?_
        rcases bft r15 with hb16 | hb16
        ·replace hM := ifT hM hb16
         refine Ct hb16 ?_
         refine Sq ?_
         refine Rg 3 ?_
         refine Om (.sl .no 1 (x14.map cI)) ?_
         refine Oa (.sl .no 1 (x14.map cI)) ?_
         refine Oa (.i 0) ?_
         refine Ni ?_
         replace hS := hS.keep (L' := []) [false] rfl
         refine Ws ?_
         refine r_ret ?_
         refine r_then_ret ?_
         refine r_blk_ret ?_
         refine w_goto_ret ?_
         refine w_round_ret ?_
         refine r_blk_ret ?_
         refine w_goto_ret ?_
         refine r_blk_ret ?_
         refine w_goto_ret ?_
         refine w_round_ret ?_
         refine r_blk_ret ?_
         refine w_goto_ret ?_
         refine w_end (x := .tup [.sl .no 1 (x14.map cI), .i 0]) (f := fun r => .tup [.sl .no 1 (r.1.map cI), .i r.2]) (.inr rfl) ?_ (.refl _) (Option.some.inj hM) hS
         exact (res_two (res_tmp (x := .sl .no 1 (x14.map cI)) rfl) (res_tmp (x := .i 0) rfl))
        ·replace hM := ifF hM hb16
         refine Cf hb16 ?_
         refine r_skip ?_
         refine Ws ?_
         refine Sq ?_
         refine Rg 4 ?_
         refine Of ((Wheel.cells a0)) ty_fo24_2 ?_
         refine Olp (.sl .no 1 (a0.Coins.map cI)) ty_agg22 ty_sc22 ?_
         refine o_len (n := a0.Coins.length) (by decide) rfl (List.length_map _) ty_isl22 ?_
         refine Om (.i 0) ?_
         refine Ni ?_
         refine Ws ?_
         refine r_block ?_
         refine w_loop (V := (List (List Int)) × Int) (fun v => [(1, .ep (Wheel.cells a0)), (4, .ep (Wheel_.cells r1.1.1)), (7, .sl (.id (g3 + 1 + 1)) 1 (v.1.map (cL 1 cI))), (9, .sl .no 1 (x14.map cI)), (20, .i v6), (22, .sl .no 1 (v5.map (cL 1 cI))), (23, .i (v5.length : Int)), (24, .i v11), (34, .i (a0.Coins.length : Int)), (35, .i v.2)]) (fun v m8 H' g' => St (· < g) H0 [(g3 + 1 + 1, .row 22 v.1.length)] H' g' ∧ coins_Tell_l3 (coins_Tell_l2 n (coins_Tell_l1 n a0 r1 m3) a0 r1 v5 v6 m6) a0 v11 x14 m8 v.1 v.2 = some r) (n := n) (v10, 0) (.k (.k (.k (.k (.k (.k (.k (.k (.k (.k .nil)))))))))) ⟨(hS.keep [true] rfl).up (by omega), hM⟩ ?_
         rintro ⟨v17, v18⟩ m8 H g8 ⟨hS, hM⟩
         obtain _ | m8 := m8
         ·exact nomatch (show none = some _ from hM)
         change wpA _ _ _ _ (Fr.of [(1, .ep (Wheel.cells a0)), (4, .ep (Wheel_.cells r1.1.1)), (7, .sl (.id (g3 + 1 + 1)) 1 (v17.map (cL 1 cI))), (9, .sl .no 1 (x14.map cI)), (20, .i v6), (22, .sl .no 1 (v5.map (cL 1 cI))), (23, .i (v5.length : Int)), (24, .i v11), (34, .i (a0.Coins.length : Int)), (35, .i v18)]) _ _
         replace hS : St (· < g) H0 [(g3 + 1 + 1, .row 22 v17.length)] H g8 := hS
         replace hM : coins_Tell_l3_b (coins_Tell_l2 n (coins_Tell_l1 n a0 r1 m3) a0 r1 v5 v6 m6) a0 v11 x14 (coins_Tell_l3 (coins_Tell_l2 n (coins_Tell_l1 n a0 r1 m3) a0 r1 v5 v6 m6) a0 v11 x14 m8) v17 v18 = some r := hM
         refine Sq ?_
         refine Rg 1 ?_
         refine Oi (.b (decide (v18 < (a0.Coins.length : Int)))) ?_
         refine Ni ?_
         refine Ws ?_
         refine Sq ?_
         rcases bft (decide (v18 < (a0.Coins.length : Int))) with hb19 | hb19
         ·replace hM := ifT hM hb19
          refine Ct hb19 ?_
          refine r_skip ?_
          refine Ws ?_
          refine Sq ?_
          refine r_block ?_
          refine Sq ?_
          refine Rg 2 ?_
          refine Om (.i v18) ?_
          refine Oa (.i v18) ?_
          refine Ni ?_
          refine Ws ?_
          refine Rg 9 ?_
          refine Om (.sl (.id (g3 + 1 + 1)) 1 (v17.map (cL 1 cI))) ?_
          refine Om (.sl .no 1 (x14.map cI)) ?_
          obtain ⟨l20, hl20, hM⟩ := bindE hM
          refine o_fresh (bs := [.sl .no 1 (x14.map cI)]) hS (by decide) rfl rfl ((W_slices_Clone_int hl20).le (.k .nil)) (by omega) fun H hS => ?_
          rw [List.length_map] at hS
          refine Om (.i v18) ?_
          refine o_buildSlice (es := [[.i v18]]) hS (by decide) ty_es22 ty_el22 rfl ty_ef22 rfl (by decide) (by omega) fun H hS => ?_
          obtain ⟨l21, hl21, hM⟩ := bindE hM
          refine o_append (xs := l20) (ys := ([v18] : List Int)) (zs := l21) (f := cI) (L' := [(g8 + 1 + 2 + 4, .row 3 1), (g8 + 1 + 2 + 2, .row 3 l21.length), (g3 + 1 + 1, .row 22 v17.length)]) 1 hS (by decide) rfl rfl rfl rfl .no ty_es22 ty_el22 ty_ef22 hl21 rfl fun H hS => ?_
          refine o_buildSliceW (es := [[.sl (.id (g8 + 1 + 2 + 2)) 1 (l21.map cI)]]) (es' := [[.sl .no 1 (l21.map cI)]]) hS (by decide) ty_es116 ty_el116 rfl ty_ef116 rfl (by decide) (by omega) (le_elems (lell_one (.cons (.sl _ _ _) .nil))) fun H hS => ?_
          obtain ⟨l22, hl22, hM⟩ := bindE hM
          refine o_append (xs := v17) (ys := ([l21] : List (List Int))) (zs := l22) (f := (cL 1 cI)) (L' := [(g8 + 1 + 2 + 6, .row 22 1), (g8 + 1 + 2 + 4, .row 3 1), (g8 + 1 + 2 + 2, .row 3 l21.length), (g3 + 1 + 1, .row 22 l22.length)]) 3 hS (by decide) rfl rfl rfl rfl .no ty_es116 ty_el116 ty_ef116 hl22 rfl fun H hS => ?_
          refine Oa (.sl (.id (g3 + 1 + 1)) 1 (l22.map (cL 1 cI))) ?_
          refine Ni ?_
          refine r_blk_normal ?_
          replace hS := hS.keep (L' := [(g3 + 1 + 1, .row 22 l22.length)]) [false, false, false, true] rfl
          refine Ws ?_
          refine Rg 2 ?_
          refine Oi (.i (w64 (v18 + 1))) ?_
          refine Om (.i (w64 (v18 + 1))) ?_
          refine Ni ?_
          exact w_round (l22, w64 (v18 + 1)) (Nat.lt_succ_self _) (.k (.k (.k (.k (.k (.k (.k (.k (.k (.k .nil)))))))))) ⟨(hS.keep [true] rfl).up (by omega), hM⟩
         ·replace hM := ifF hM hb19
          refine Cf hb19 ?_
          refine r_exit ?_
          refine r_then_exit ?_
          refine w_round_exit ?_
          refine r_blk_exit ?_
          refine r_blk_normal ?_
          exact w_goto v17 (.k (.k (.k (.k (.k (.k (.k .nil))))))) ⟨(hS.keep [true] rfl).up (by omega), hM⟩
      ·replace hM := ifF hM hb12
       refine Cf hb12 ?_
       refine r_exit ?_
       refine r_then_exit ?_
       refine w_round_exit ?_
       refine r_blk_exit ?_
       exact w_goto v10 (.k (.k (.k (.k .nil)))) ⟨(hS.keep [true] rfl).up (by omega), hM⟩
   ·replace hM := ifF hM hb7
    refine Cf hb7 ?_
    refine r_exit ?_
    refine r_then_exit ?_
    refine w_round_exit ?_
    refine r_blk_exit ?_
    exact w_goto () .nil ⟨(hS.keep [] rfl).up (by omega), hM⟩
theorem W_law01_CoinsTold {n : Nat} {a0 : Wheel} {a1 : Int} {r : Bool} (hM : law01_CoinsTold n a0 a1 = some r) : PureSat Try.prog 14 [.agg (Wheel.cells a0), .i a1] (.b r) := by
 refine pure_of_wp mixed Try.func14 rfl (by decide) Try.ntmps14 (by simp) ?pure fun H0 g hf => ?_
 case pure => exact .v _
 rw [frame0_of]
 change wpA _ _ _ _ (Fr.of [(0, .agg (Wheel.cells a0)), (1, .i a1)]) H0 g
 have hS := St.start hf
 refine Sq ?_
 refine Rg 2 ?_
 refine o_box (v := .agg (Wheel.cells a0)) (cs := (Wheel.cells a0)) hS (by decide) rfl rfl (by omega) fun H hS => ?_
 refine Oa (.b false) ?_
 refine Ni ?_
 refine w_iceE (L' := []) 0 2 hS rfl rfl rfl fun H hS => ?_
 refine Ws ?_
 refine Sq ?_
 refine w_join (J := Bool) (fun j => [(1, .i a1), (2, .ep (Wheel.cells a0)), (24, .b j)]) (fun j H' g' => St (· < g) H0 [] H' g' ∧ law01_CoinsTold_j1 n a0 a1 j = some r) ?_ ?_
 ·rintro v1 H g1 ⟨hS, hM⟩
  change wpA _ _ _ _ (Fr.of [(1, .i a1), (2, .ep (Wheel.cells a0)), (24, .b v1)]) _ _
  replace hS : St (· < g) H0 [] H g1 := hS
  replace hM : law01_CoinsTold_j1 n a0 a1 v1 = some r := hM
  rcases bft v1 with hb2 | hb2
  ·replace hM := ifT hM hb2
   refine Ct hb2 ?_
   refine Sq ?_
   refine Rg 2 ?_
   obtain ⟨r3, hr3, hM⟩ := bindE hM
   refine o_call (bs := []) (by decide) rfl rfl ((W_law01_works hr3).le .nil) ?_
   refine Oa (.b r3) ?_
   refine Ni ?_
   refine Ws ?_
   refine r_ret ?_
   refine r_then_ret ?_
   refine w_end (x := .b r3) (f := fun r => .b r) (.inr rfl) ?_ (.refl _) (Option.some.inj hM) hS
   exact (res_one (res_tmp (x := .b r3) rfl))
  ·replace hM := ifF hM hb2
   refine Cf hb2 ?_
   refine r_skip ?_
   refine Ws ?_
   refine Sq ?_
   refine Rg 7 ?_
   refine Olg (.agg (Wheel.cells a0)) ty_agg24 ?_
   obtain ⟨r4, hr4, hM⟩ := bindE hM
   refine o_call (bs := [.agg (Wheel.cells a0)]) (by decide) rfl rfl ((W_coins_Tell hr4).le (.k .nil)) ?_
   refine Om (.tup [.sl .no 1 (r4.1.map cI), .i r4.2]) ?_
   refine Ox (.sl .no 1 (r4.1.map cI)) ?_
   refine Ox (.i r4.2) ?_
   refine Oa (.sl .no 1 (r4.1.map cI)) ?_
   refine Oa (.i r4.2) ?_
   refine Ni ?_
   refine Ws ?_
   refine Sq ?_
   refine Sq ?_
   refine Rg 2 ?_
   refine Om (.i r4.2) ?_
   refine Oi (.b (r4.2 != 0)) ?_
   refine Ni ?_
   refine Ws ?_
   rcases bft (r4.2 != 0) with hb5 | hb5
   ·replace hM := ifT hM hb5
    refine Ct hb5 ?_
    refine w_join (J := Bool) (fun j => [(4, .b j)]) (fun j H' g' => St (· < g) H0 [] H' g' ∧ law01_CoinsTold_j2 j = some r) ?_ ?_
    ·rintro v6 H g2 ⟨hS, hM⟩
     change wpA _ _ _ _ (Fr.of [(4, .b v6)]) _ _
     replace hS : St (· < g) H0 [] H g2 := hS
     replace hM : law01_CoinsTold_j2 v6 = some r := hM
     refine r_ret ?_
     refine r_then_ret ?_
     refine w_end (x := .b v6) (f := fun r => .b r) (.inr rfl) ?_ (.refl _) (Option.some.inj hM) hS
     exact (res_one (res_tmp (x := .b v6) rfl))
    ·refine Rg 11 ?_
     refine Om (.i r4.2) ?_
     refine Oi (.b (r4.2 == 3)) ?_
     refine Om (.b (r4.2 == 3)) ?_
     rcases bft (r4.2 == 3) with hb7 | hb7
     ·replace hM := ifT hM hb7
      refine Oy (want := true) hb7 ?_
      refine Om (.sl .no 1 (r4.1.map cI)) ?_
      refine Oy (want := true) hb7 ?_
      refine o_len (n := r4.1.length) (by decide) rfl (List.length_map _) ty_isl22 ?_
      refine Oy (want := true) hb7 ?_
      refine Oi (.b ((r4.1.length : Int) == 0)) ?_
      refine Pt (.b ((r4.1.length : Int) == 0)) hb7 ?_
      refine Om (.b ((r4.1.length : Int) == 0)) ?_
      rcases bft ((r4.1.length : Int) == 0) with hb8 | hb8
      ·replace hM := ifT hM hb8
       refine Oy (want := true) hb8 ?_
       obtain ⟨r9, hr9, hM⟩ := bindE hM
       refine o_call (bs := []) (by decide) rfl rfl ((W_law01_works hr9).le .nil) ?_
       refine Pt (.b r9) hb8 ?_
       refine Oa (.b r9) ?_
       refine Ni ?_
       exact w_goto r9 (.k .nil) ⟨(hS.keep [] rfl).up (by omega), hM⟩
      ·replace hM := ifF hM hb8
       refine On (want := true) hb8 ?_
       refine Pf (.b false) hb8 ?_
       refine Oa (.b false) ?_
       refine Ni ?_
       exact w_goto false (.k .nil) ⟨(hS.keep [] rfl).up (by omega), hM⟩
     ·replace hM := ifF hM hb7
      refine On (want := true) hb7 ?_
      refine On (want := true) hb7 ?_
      refine On (want := true) hb7 ?_
      refine Pf (.b false) hb7 ?_
      refine Om (.b false) ?_
      refine Og ?_
      refine o_pickF (v := .b false) (e := false) (by decide) rfl rfl rfl ?_
      refine Oa (.b false) ?_
      refine Ni ?_
      exact w_goto false (.k .nil) ⟨(hS.keep [] rfl).up (by omega), hM⟩
   ·replace hM := ifF hM hb5
    refine Cf hb5 ?_
    refine r_skip ?_
    refine Ws ?_
    refine Sq ?_
    refine w_join (J := Bool) (fun j => [(1, .i a1), (2, .ep (Wheel.cells a0)), (5, .sl .no 1 (r4.1.map cI)), (51, .b j)]) (fun j H' g' => St (· < g) H0 [] H' g' ∧ law01_CoinsTold_j3 n a0 a1 r4 j = some r) ?_ ?_
    ·rintro v10 H g3 ⟨hS, hM⟩
     change wpA _ _ _ _ (Fr.of [(1, .i a1), (2, .ep (Wheel.cells a0)), (5, .sl .no 1 (r4.1.map cI)), (51, .b v10)]) _ _
     replace hS : St (· < g) H0 [] H g3 := hS
     replace hM : law01_CoinsTold_j3 n a0 a1 r4 v10 = some r := hM
     rcases bft v10 with hb11 | hb11
     ·replace hM := ifT hM hb11
      refine Ct hb11 ?_
      refine Sq ?_
      refine Rg 1 ?_
      refine Oa (.b false) ?_
      refine Ni ?_
      refine Ws ?_
      refine r_ret ?_
      refine r_then_ret ?_
      refine w_end (x := .b false) (f := fun r => .b r) (.inr rfl) ?_ (.refl _) (Option.some.inj hM) hS
      exact (res_one (res_tmp (x := .b false) rfl))
     ·replace hM := ifF hM hb11
      refine Cf hb11 ?_
      refine r_skip ?_
      refine Ws ?_
      refine Sq ?_
      refine Rg 9 ?_
      refine Olg (.agg (Wheel.cells a0)) ty_agg24 ?_
      refine Om (.i a1) ?_
      refine Om (.sl .no 1 (r4.1.map cI)) ?_
      obtain ⟨r12, hr12, hM⟩ := bindE hM
      refine o_call (bs := [.agg (Wheel.cells a0), .i a1, .sl .no 1 (r4.1.map cI)]) (by decide) rfl rfl ((W_ref01_What hr12).le (.k (.k (.k .nil)))) ?_
      refine Om (.tup [.sl .no 2 (r12.1.map Seen.cells), .i r12.2]) ?_
      refine Ox (.sl .no 2 (r12.1.map Seen.cells)) ?_
      refine Ox (.i r12.2) ?_
      refine Oa (.sl .no 2 (r12.1.map Seen.cells)) ?_
      refine Oa (.i r12.2) ?_
      refine Ni ?_
      refine Ws ?_
      refine Sq ?_
      refine Rg 8 ?_
      refine Olg (.agg (Wheel.cells a0)) ty_agg24 ?_
      refine Om (.sl .no 2 (r12.1.map Seen.cells)) ?_
      obtain ⟨r13, hr13, hM⟩ := bindE hM
      refine o_call (bs := [.agg (Wheel.cells a0), .sl .no 2 (r12.1.map Seen.cells)]) (by decide) rfl rfl ((W_coins_Now hr13).le (.k (.k .nil))) ?_
      refine Om (.tup [.sl .no 1 (r13.1.map cI), .i r13.2]) ?_
      refine Ox (.sl .no 1 (r13.1.map cI)) ?_
      refine Ox (.i r13.2) ?_
      refine Oa (.sl .no 1 (r13.1.map cI)) ?_
      refine Oa (.i r13.2) ?_
      refine Ni ?_
      refine Ws ?_
      refine w_join (J := Bool) (fun j => [(4, .b j)]) (fun j H' g' => St (· < g) H0 [] H' g' ∧ law01_CoinsTold_j4 j = some r) ?_ ?_
      ·rintro v14 H g4 ⟨hS, hM⟩
       change wpA _ _ _ _ (Fr.of [(4, .b v14)]) _ _
       replace hS : St (· < g) H0 [] H g4 := hS
       replace hM : law01_CoinsTold_j4 v14 = some r := hM
       refine r_ret ?_
       refine w_end (x := .b v14) (f := fun r => .b r) (.inr rfl) ?_ (.refl _) (Option.some.inj hM) hS
       exact (res_one (res_tmp (x := .b v14) rfl))
      ·refine Rg 12 ?_
       refine Om (.i r13.2) ?_
       refine Oi (.b (r13.2 == 0)) ?_
       refine Om (.b (r13.2 == 0)) ?_
       rcases bft (r13.2 == 0) with hb15 | hb15
       ·replace hM := ifT hM hb15
        refine Oy (want := true) hb15 ?_
        refine Om (.sl .no 1 (r13.1.map cI)) ?_
        refine Oy (want := true) hb15 ?_
        refine Om (.i r12.2) ?_
        refine Oy (want := true) hb15 ?_
        refine o_buildSlice (es := [[.i r12.2]]) hS (by decide) ty_es22 ty_el22 rfl ty_ef22 rfl (by decide) (by omega) fun H hS => ?_
        refine Oy (want := true) hb15 ?_
        obtain ⟨r16, hr16, hM⟩ := bindE hM
        refine o_call (bs := [.sl .no 1 (r13.1.map cI), .sl (.id (g3 + 9 + 8 + 5)) 1 (([r12.2] : List Int).map cI)]) (by decide) rfl rfl ((W_ref01_SameInts hr16).le (.k (.cons (.sl _ _ _) .nil))) ?_
        refine Pt (.b r16) hb15 ?_
        refine Om (.b r16) ?_
        rcases bft r16 with hb17 | hb17
        ·replace hM := ifT hM hb17
         refine Oy (want := true) hb17 ?_
         obtain ⟨r18, hr18, hM⟩ := bindE hM
         refine o_call (bs := []) (by decide) rfl rfl ((W_law01_works hr18).le .nil) ?_
         refine Pt (.b r18) hb17 ?_
         refine Oa (.b r18) ?_
         refine Ni ?_
         exact w_goto r18 (.k .nil) ⟨(hS.keep [false] rfl).up (by omega), hM⟩
        ·replace hM := ifF hM hb17
         refine On (want := true) hb17 ?_
         refine Pf (.b false) hb17 ?_
         refine Oa (.b false) ?_
         refine Ni ?_
         exact w_goto false (.k .nil) ⟨(hS.keep [false] rfl).up (by omega), hM⟩
       ·replace hM := ifF hM hb15
        refine On (want := true) hb15 ?_
        refine On (want := true) hb15 ?_
        refine On (want := true) hb15 ?_
        refine On (want := true) hb15 ?_
        refine Pf (.b false) hb15 ?_
        refine Om (.b false) ?_
        refine Og ?_
        refine o_pickF (v := .b false) (e := false) (by decide) rfl rfl rfl ?_
        refine Oa (.b false) ?_
        refine Ni ?_
        exact w_goto false (.k .nil) ⟨(hS.keep [] rfl).up (by omega), hM⟩
    ·refine Rg 9 ?_
     refine Om (.sl .no 1 (r4.1.map cI)) ?_
     refine o_len (n := r4.1.length) (by decide) rfl (List.length_map _) ty_isl22 ?_
     refine Oi (.b (decide ((r4.1.length : Int) > 4))) ?_
     refine Om (.b (decide ((r4.1.length : Int) > 4))) ?_
     rcases bft (decide ((r4.1.length : Int) > 4)) with hb19 | hb19
     ·replace hM := ifT hM hb19
      refine On (want := false) hb19 ?_
      refine On (want := false) hb19 ?_
      refine On (want := false) hb19 ?_
      refine On (want := false) hb19 ?_
      refine Pt (.b true) hb19 ?_
      refine Ni ?_
      exact w_goto true (.k (.k (.k (.k .nil)))) ⟨(hS.keep [] rfl).up (by omega), hM⟩
     ·replace hM := ifF hM hb19
      refine Oy (want := false) hb19 ?_
      refine Olg (.agg (Wheel.cells a0)) ty_agg24 ?_
      refine Oy (want := false) hb19 ?_
      refine Om (.sl .no 1 (r4.1.map cI)) ?_
      refine Oy (want := false) hb19 ?_
      obtain ⟨r20, hr20, hM⟩ := bindE hM
      refine o_call (bs := [.agg (Wheel.cells a0), .sl .no 1 (r4.1.map cI), .i 0]) (by decide) rfl rfl ((W_ref01_AreKinds hr20).le (.k (.k (.k .nil)))) ?_
      refine Oy (want := false) hb19 ?_
      refine o_not (e := r20) (by decide) rfl ?_
      refine Pf (.b (!r20)) hb19 ?_
      refine Ni ?_
      exact w_goto (!r20) (.k (.k (.k (.k .nil)))) ⟨(hS.keep [] rfl).up (by omega), hM⟩
 ·refine Rg 14 ?_
  refine Olg (.agg (Wheel.cells a0)) ty_agg24 ?_
  obtain ⟨r21, hr21, hM⟩ := bindE hM
  refine o_call (bs := [.agg (Wheel.cells a0)]) (by decide) rfl rfl ((W_law01_isWheel hr21).le (.k .nil)) ?_
  refine o_not (e := r21) (by decide) rfl ?_
  refine Om (.b (!r21)) ?_
  rcases bft (!r21) with hb22 | hb22
  ·replace hM := ifT hM hb22
   refine On (want := false) hb22 ?_
   refine On (want := false) hb22 ?_
   refine On (want := false) hb22 ?_
   refine Pt (.b true) hb22 ?_
   refine Om (.b true) ?_
   refine Og ?_
   refine Og ?_
   refine Og ?_
   refine Og ?_
   refine o_pickT (v := .b true) (e := true) (by decide) rfl rfl rfl ?_
   refine Ni ?_
   exact w_goto true (.k (.k (.k .nil))) ⟨(hS.keep [] rfl).up (by omega), hM⟩
  ·replace hM := ifF hM hb22
   refine Oy (want := false) hb22 ?_
   refine Of ((Wheel.cells a0)) ty_fo24_0 ?_
   refine Oy (want := false) hb22 ?_
   refine Olp (.i a0.Round) ty_agg3 ty_sc3 ?_
   refine Oy (want := false) hb22 ?_
   refine Oi (.b (decide (a0.Round > 60))) ?_
   refine Pf (.b (decide (a0.Round > 60))) hb22 ?_
   refine Om (.b (decide (a0.Round > 60))) ?_
   rcases bft (decide (a0.Round > 60)) with hb23 | hb23
   ·replace hM := ifT hM hb23
    refine On (want := false) hb23 ?_
    refine On (want := false) hb23 ?_
    refine On (want := false) hb23 ?_
    refine On (want := false) hb23 ?_
    refine Pt (.b true) hb23 ?_
    refine Ni ?_
    exact w_goto true (.k (.k (.k .nil))) ⟨(hS.keep [] rfl).up (by omega), hM⟩
   ·replace hM := ifF hM hb23
    refine Oy (want := false) hb23 ?_
    refine Olg (.agg (Wheel.cells a0)) ty_agg24 ?_
    refine Oy (want := false) hb23 ?_
    refine Om (.i a1) ?_
    refine Oy (want := false) hb23 ?_
    obtain ⟨r24, hr24, hM⟩ := bindE hM
    refine o_call (bs := [.agg (Wheel.cells a0), .i a1]) (by decide) rfl rfl ((W_ref01_IsPlace hr24).le (.k (.k .nil))) ?_
    refine Oy (want := false) hb23 ?_
    refine o_not (e := r24) (by decide) rfl ?_
    refine Pf (.b (!r24)) hb23 ?_
    refine Ni ?_
    exact w_goto (!r24) (.k (.k (.k .nil))) ⟨(hS.keep [] rfl).up (by omega), hM⟩
end Go.Proofs.Ytapcibbbmeomkaa
