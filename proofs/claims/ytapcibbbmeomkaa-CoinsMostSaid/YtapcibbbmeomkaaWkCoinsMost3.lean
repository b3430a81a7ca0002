/-
  The code returns what the functions say (printed by gen.py).
  Conditions: none.
-/
import Derived.Test.YtapcibbbmeomkaaWkCoinsMost2
import Derived.Test.YtapcibbbmeomkaaSh
set_option linter.all false
namespace Go.Proofs.Ytapcibbbmeomkaa
open Go Go.AM Go.Law
set_option linter.unusedVariables false
set_option maxRecDepth 4000
set_option maxHeartbeats 4000000
theorem W_ref01_Rising {n : Nat} {a0 : List Int} {a1 : Int} {a2 : Int} {r : Bool} (hM : ref01_Rising n a0 a1 a2 = some r) : PureSat Try.prog 73 [.sl .no 1 (a0.map cI), .i a1, .i a2] (.b r) := by
 refine pure_of_wp mixed Try.func73 rfl (by decide) Try.ntmps73 (by simp) ?pure fun H0 g hf => ?_
 case pure => exact .v _
 rw [frame0_of]
 change wpA _ _ _ _ (Fr.of [(0, .sl .no 1 (a0.map cI)), (1, .i a1), (2, .i a2)]) H0 g
 have hS := St.start hf
 refine Sq ?_
 refine Rg 1 ?_
 refine Oa (.b false) ?_
 refine Ni ?_
 refine Ws ?_
 refine w_join (J := Unit) (fun j => []) (fun j H' g' => St (· < g) H0 [] H' g' ∧ ref01_Rising_j1 = some r) ?_ ?_
 ·rintro _ H g1 ⟨hS, hM⟩
  change wpA _ _ _ _ (Fr.of []) _ _
  replace hS : St (· < g) H0 [] H g1 := hS
  replace hM : ref01_Rising_j1 = some r := hM
  refine Sq ?_
  refine Rg 1 ?_
  refine Oa (.b true) ?_
  refine Ni ?_
  refine Ws ?_
  refine r_ret ?_
  refine w_end (x := .b true) (f := fun r => .b r) (.inr rfl) ?_ (.refl _) (Option.some.inj hM) hS
  exact (res_one (res_tmp (x := .b true) rfl))
 ·refine Sq ?_
  refine Rg 1 ?_
  refine Oa (.i 0) ?_
  refine Ni ?_
  refine Ws ?_
  refine r_block ?_
  refine w_loop (V := Int) (fun v => [(0, .sl .no 1 (a0.map cI)), (1, .i a1), (2, .i a2), (7, .i v)]) (fun v m2 H' g' => St (· < g) H0 [] H' g' ∧ ref01_Rising_l1 a0 a1 a2 m2 v = some r) (n := n) 0 (.k (.k (.k (.k .nil)))) ⟨(hS.keep [] rfl).up (by omega), hM⟩ ?_
  rintro v1 m2 H g2 ⟨hS, hM⟩
  obtain _ | m2 := m2
  ·exact nomatch (show none = some _ from hM)
  change wpA _ _ _ _ (Fr.of [(0, .sl .no 1 (a0.map cI)), (1, .i a1), (2, .i a2), (7, .i v1)]) _ _
  replace hS : St (· < g) H0 [] H g2 := hS
  replace hM : ref01_Rising_l1_b a0 a1 a2 (ref01_Rising_l1 a0 a1 a2 m2) v1 = some r := hM
  refine Sq ?_
  refine Sq ?_
  refine Rg 4 ?_
  refine Om (.i v1) ?_
  refine Om (.sl .no 1 (a0.map cI)) ?_
  refine o_len (n := a0.length) (by decide) rfl (List.length_map _) ty_isl22 ?_
  refine Oi (.b (decide (v1 < (a0.length : Int)))) ?_
  refine Ni ?_
  refine Ws ?_
  rcases bft (decide (v1 < (a0.length : Int))) with hb2 | hb2
  ·replace hM := ifT hM hb2
   refine Ct hb2 ?_
   refine r_skip ?_
   refine Ws ?_
   refine Sq ?_
   refine r_block ?_
   refine w_join (J := Bool) (fun j => [(0, .sl .no 1 (a0.map cI)), (1, .i a1), (2, .i a2), (7, .i v1), (37, .b j)]) (fun j H' g' => St (· < g) H0 [] H' g' ∧ ref01_Rising_j2 (ref01_Rising_l1 a0 a1 a2 m2) v1 j = some r) ?_ ?_
   ·rintro v3 H g3 ⟨hS, hM⟩
    change wpA _ _ _ _ (Fr.of [(0, .sl .no 1 (a0.map cI)), (1, .i a1), (2, .i a2), (7, .i v1), (37, .b v3)]) _ _
    replace hS : St (· < g) H0 [] H g3 := hS
    replace hM : ref01_Rising_j2 (ref01_Rising_l1 a0 a1 a2 m2) v1 v3 = some r := hM
    rcases bft v3 with hb4 | hb4
    ·replace hM := ifT hM hb4
     refine Ct hb4 ?_
     refine Sq ?_
     refine Rg 1 ?_
     refine Oa (.b false) ?_
     refine Ni ?_
     refine Ws ?_
     refine r_ret ?_
     refine r_blk_ret ?_
     refine r_then_ret ?_
     refine w_round_ret ?_
     refine r_blk_ret ?_
     refine w_goto_ret ?_
     refine w_end (x := .b false) (f := fun r => .b r) (.inr rfl) ?_ (.refl _) (Option.some.inj hM) hS
     exact (res_one (res_tmp (x := .b false) rfl))
    ·replace hM := ifF hM hb4
     refine Cf hb4 ?_
     refine r_skip ?_
     refine r_blk_normal ?_
     refine Ws ?_
     refine Rg 3 ?_
     refine Om (.i v1) ?_
     refine Oi (.i (w64 (v1 + 1))) ?_
     refine Oa (.i (w64 (v1 + 1))) ?_
     refine Ni ?_
     exact w_round (w64 (v1 + 1)) (Nat.lt_succ_self _) (.k (.k (.k (.k .nil)))) ⟨(hS.keep [] rfl).up (by omega), hM⟩
   ·have hS0 := hS
    refine r_draw (n := 24) rfl (by kernel_rfl) ?_
    refine Om (.sl .no 1 (a0.map cI)) ?_
    refine Om (.i v1) ?_
    obtain ⟨x5, hx5, hM⟩ := bindE hM
    refine o_index (xs := a0) (f := cI) (z := v1) (u := x5) (by decide) rfl rfl ty_es22 hx5 ?_
    refine Olp (.i x5) ty_agg3 ty_sc3 ?_
    refine Om (.i a1) ?_
    refine Om (.i a2) ?_
    obtain ⟨r6, hr6, hM⟩ := bindE hM
    refine o_call (bs := [.i x5, .i a1, .i a2]) (by decide) rfl rfl ((W_ref01_Within hr6).le (.k (.k (.k .nil)))) ?_
    refine o_not (e := r6) (by decide) rfl ?_
    refine Om (.b (!r6)) ?_
    rcases bft (!r6) with hb7 | hb7
    ·replace hM := ifT hM hb7
     refine On (want := false) hb7 ?_
     refine On (want := false) hb7 ?_
     refine On (want := false) hb7 ?_
     refine o_guardU (j := 11) (by decide) rfl ?_
     refine o_guardU (j := 11) (by decide) rfl ?_
     refine o_guardU (j := 11) (by decide) rfl ?_
     refine o_guardU (j := 11) (by decide) rfl ?_
     refine o_guardU (j := 11) (by decide) rfl ?_
     refine o_guardU (j := 11) (by decide) rfl ?_
     refine o_guardU (j := 11) (by decide) rfl ?_
     refine o_guardU (j := 11) (by decide) rfl ?_
     refine o_guardU (j := 11) (by decide) rfl ?_
     refine o_guardU (j := 11) (by decide) rfl ?_
     refine On (want := false) hb7 ?_
     refine Pt (.b true) hb7 ?_
     refine Ni ?_
     exact w_goto true (.k (.k (.k (.k (.k .nil))))) ⟨(hS.keep [] rfl).up (by omega), hM⟩
    ·replace hM := ifF hM hb7
     refine Oy (want := false) hb7 ?_
     refine Om (.i v1) ?_
     refine Oy (want := false) hb7 ?_
     refine Oi (.b (decide (v1 > 0))) ?_
     refine Oy (want := false) hb7 ?_
     refine Om (.b (decide (v1 > 0))) ?_
     rcases bft (decide (v1 > 0)) with hb8 | hb8
     ·replace hM := ifT hM hb8
      refine Oy (want := true) hb8 ?_
      refine Om (.sl .no 1 (a0.map cI)) ?_
      refine Oy (want := true) hb8 ?_
      refine Om (.i v1) ?_
      refine Oy (want := true) hb8 ?_
      obtain ⟨x9, hx9, hM⟩ := bindE hM
      refine o_index (xs := a0) (f := cI) (z := v1) (u := x9) (by decide) rfl rfl ty_es22 hx9 ?_
      refine Oy (want := true) hb8 ?_
      refine Olp (.i x9) ty_agg3 ty_sc3 ?_
      refine Oy (want := true) hb8 ?_
      refine Om (.sl .no 1 (a0.map cI)) ?_
      refine Oy (want := true) hb8 ?_
      refine Om (.i v1) ?_
      refine Oy (want := true) hb8 ?_
      refine Oi (.i (w64 (v1 - 1))) ?_
      refine Oy (want := true) hb8 ?_
      obtain ⟨x10, hx10, hM⟩ := bindE hM
      refine o_index (xs := a0) (f := cI) (z := (w64 (v1 - 1))) (u := x10) (by decide) rfl rfl ty_es22 hx10 ?_
      refine Oy (want := true) hb8 ?_
      refine Olp (.i x10) ty_agg3 ty_sc3 ?_
      refine Oy (want := true) hb8 ?_
      refine Oi (.b (decide (x9 ≤ x10))) ?_
      refine Oy (want := false) hb7 ?_
      refine Pt (.b (decide (x9 ≤ x10))) hb8 ?_
      refine Pf (.b (decide (x9 ≤ x10))) hb7 ?_
      refine Ni ?_
      exact w_goto (decide (x9 ≤ x10)) (.k (.k (.k (.k (.k .nil))))) ⟨(hS.keep [] rfl).up (by omega), hM⟩
     ·replace hM := ifF hM hb8
      refine On (want := true) hb8 ?_
      refine On (want := true) hb8 ?_
      refine On (want := true) hb8 ?_
      refine On (want := true) hb8 ?_
      refine On (want := true) hb8 ?_
      refine On (want := true) hb8 ?_
      refine On (want := true) hb8 ?_
      refine On (want := true) hb8 ?_
      refine On (want := true) hb8 ?_
      refine On (want := true) hb8 ?_
      refine Oy (want := false) hb7 ?_
      refine Pf (.b false) hb8 ?_
      refine Pf (.b false) hb7 ?_
      refine Ni ?_
      exact w_goto false (.k (.k (.k (.k (.k .nil))))) ⟨(hS.keep [] rfl).up (by omega), hM⟩
  ·replace hM := ifF hM hb2
   refine Cf hb2 ?_
   refine r_exit ?_
   refine r_then_exit ?_
   refine w_round_exit ?_
   refine r_blk_exit ?_
   exact w_goto () .nil ⟨(hS.keep [] rfl).up (by omega), hM⟩
theorem W_ref01_Check {n : Nat} {a0 : Wheel} {r : Int} (hM : ref01_Check n a0 = some r) : PureSat Try.prog 39 [.agg (Wheel.cells a0)] (.i r) := by
 refine pure_of_wp mixed Try.func39 rfl (by decide) Try.ntmps39 (by simp) ?pure fun H0 g hf => ?_
 case pure => exact .v _
 rw [frame0_of]
 change wpA _ _ _ _ (Fr.of [(0, .agg (Wheel.cells a0))]) H0 g
 have hS := St.start hf
 refine Sq ?_
 refine Rg 2 ?_
 refine o_box (v := .agg (Wheel.cells a0)) (cs := (Wheel.cells a0)) hS (by decide) rfl rfl (by omega) fun H hS => ?_
 refine Oa (.i 0) ?_
 refine Ni ?_
 refine w_iceE (L' := []) 0 1 hS rfl rfl rfl fun H hS => ?_
 refine Ws ?_
 refine Sq ?_
 refine w_join (J := Bool) (fun j => [(32, .b j)]) (fun j H' g' => St (· < g) H0 [] H' g' ∧ ref01_Check_j1 j = some r) ?_ ?_
 ·rintro v1 H g1 ⟨hS, hM⟩
  change wpA _ _ _ _ (Fr.of [(32, .b v1)]) _ _
  replace hS : St (· < g) H0 [] H g1 := hS
  replace hM : ref01_Check_j1 v1 = some r := hM
  rcases bft v1 with hb2 | hb2
  ·replace hM := ifT hM hb2
   refine Ct hb2 ?_
   refine Sq ?_
   refine Rg 1 ?_
   refine Oa (.i 10) ?_
   refine Ni ?_
   refine Ws ?_
   refine r_ret ?_
   refine r_then_ret ?_
   refine w_end (x := .i 10) (f := fun r => .i r) (.inr rfl) ?_ (.refl _) (Option.some.inj hM) hS
   exact (res_one (res_tmp (x := .i 10) rfl))
  ·replace hM := ifF hM hb2
   refine Cf hb2 ?_
   refine r_skip ?_
   refine Ws ?_
   refine Sq ?_
   refine Rg 1 ?_
   refine Oa (.i 0) ?_
   refine Ni ?_
   refine Ws ?_
   refine r_ret ?_
   refine w_end (x := .i 0) (f := fun r => .i r) (.inr rfl) ?_ (.refl _) (Option.some.inj hM) hS
   exact (res_one (res_tmp (x := .i 0) rfl))
 ·refine Rg 30 ?_
  refine Of ((Wheel.cells a0)) ty_fo24_0 ?_
  refine Olp (.i a0.Round) ty_agg3 ty_sc3 ?_
  obtain ⟨r3, hr3, hM⟩ := bindE hM
  refine o_call (bs := [.i a0.Round, .i 1, .i 200]) (by decide) rfl rfl ((W_ref01_Within hr3).le (.k (.k (.k .nil)))) ?_
  refine o_not (e := r3) (by decide) rfl ?_
  refine Om (.b (!r3)) ?_
  rcases bft (!r3) with hb4 | hb4
  ·replace hM := ifT hM hb4
   refine On (want := false) hb4 ?_
   refine On (want := false) hb4 ?_
   refine On (want := false) hb4 ?_
   refine On (want := false) hb4 ?_
   refine Pt (.b true) hb4 ?_
   refine Om (.b true) ?_
   refine Og ?_
   refine Og ?_
   refine Og ?_
   refine Og ?_
   refine Og ?_
   refine Og ?_
   refine o_pickT (v := .b true) (e := true) (by decide) rfl rfl rfl ?_
   refine Om (.b true) ?_
   refine Og ?_
   refine Og ?_
   refine Og ?_
   refine Og ?_
   refine o_pickT (v := .b true) (e := true) (by decide) rfl rfl rfl ?_
   refine Om (.b true) ?_
   refine Og ?_
   refine Og ?_
   refine Og ?_
   refine Og ?_
   refine o_pickT (v := .b true) (e := true) (by decide) rfl rfl rfl ?_
   refine Ni ?_
   exact w_goto true (.k .nil) ⟨(hS.keep [] rfl).up (by omega), hM⟩
  ·replace hM := ifF hM hb4
   refine Oy (want := false) hb4 ?_
   refine Of ((Wheel.cells a0)) ty_fo24_1 ?_
   refine Oy (want := false) hb4 ?_
   refine Olp (.sl .no 1 (a0.Notches.map cI)) ty_agg22 ty_sc22 ?_
   refine Oy (want := false) hb4 ?_
   refine o_len (n := a0.Notches.length) (by decide) rfl (List.length_map _) ty_isl22 ?_
   refine Oy (want := false) hb4 ?_
   refine Oi (.b (decide ((a0.Notches.length : Int) > 12))) ?_
   refine Pf (.b (decide ((a0.Notches.length : Int) > 12))) hb4 ?_
   refine Om (.b (decide ((a0.Notches.length : Int) > 12))) ?_
   rcases bft (decide ((a0.Notches.length : Int) > 12)) with hb5 | hb5
   ·replace hM := ifT hM hb5
    refine On (want := false) hb5 ?_
    refine On (want := false) hb5 ?_
    refine On (want := false) hb5 ?_
    refine On (want := false) hb5 ?_
    refine On (want := false) hb5 ?_
    refine On (want := false) hb5 ?_
    refine Pt (.b true) hb5 ?_
    refine Om (.b true) ?_
    refine Og ?_
    refine Og ?_
    refine Og ?_
    refine Og ?_
    refine o_pickT (v := .b true) (e := true) (by decide) rfl rfl rfl ?_
    refine Om (.b true) ?_
    refine Og ?_
    refine Og ?_
    refine Og ?_
    refine Og ?_
    refine o_pickT (v := .b true) (e := true) (by decide) rfl rfl rfl ?_
    refine Ni ?_
    exact w_goto true (.k .nil) ⟨(hS.keep [] rfl).up (by omega), hM⟩
   ·replace hM := ifF hM hb5
    refine Oy (want := false) hb5 ?_
    refine Of ((Wheel.cells a0)) ty_fo24_1 ?_
    refine Oy (want := false) hb5 ?_
    refine Olp (.sl .no 1 (a0.Notches.map cI)) ty_agg22 ty_sc22 ?_
    refine Oy (want := false) hb5 ?_
    refine Of ((Wheel.cells a0)) ty_fo24_0 ?_
    refine Oy (want := false) hb5 ?_
    refine Olp (.i a0.Round) ty_agg3 ty_sc3 ?_
    refine Oy (want := false) hb5 ?_
    obtain ⟨r6, hr6, hM⟩ := bindE hM
    refine o_call (bs := [.sl .no 1 (a0.Notches.map cI), .i 1, .i a0.Round]) (by decide) rfl rfl ((W_ref01_Rising hr6).le (.k (.k (.k .nil)))) ?_
    refine Oy (want := false) hb5 ?_
    refine o_not (e := r6) (by decide) rfl ?_
    refine Pf (.b (!r6)) hb5 ?_
    refine Om (.b (!r6)) ?_
    rcases bft (!r6) with hb7 | hb7
    ·replace hM := ifT hM hb7
     refine On (want := false) hb7 ?_
     refine On (want := false) hb7 ?_
     refine On (want := false) hb7 ?_
     refine On (want := false) hb7 ?_
     refine Pt (.b true) hb7 ?_
     refine Om (.b true) ?_
     refine Og ?_
     refine Og ?_
     refine Og ?_
     refine Og ?_
     refine o_pickT (v := .b true) (e := true) (by decide) rfl rfl rfl ?_
     refine Ni ?_
     exact w_goto true (.k .nil) ⟨(hS.keep [] rfl).up (by omega), hM⟩
    ·replace hM := ifF hM hb7
     refine Oy (want := false) hb7 ?_
     refine Of ((Wheel.cells a0)) ty_fo24_2 ?_
     refine Oy (want := false) hb7 ?_
     refine Olp (.sl .no 1 (a0.Coins.map cI)) ty_agg22 ty_sc22 ?_
     refine Oy (want := false) hb7 ?_
     refine o_len (n := a0.Coins.length) (by decide) rfl (List.length_map _) ty_isl22 ?_
     refine Oy (want := false) hb7 ?_
     refine Oi (.b (decide ((a0.Coins.length : Int) > 4))) ?_
     refine Pf (.b (decide ((a0.Coins.length : Int) > 4))) hb7 ?_
     refine Om (.b (decide ((a0.Coins.length : Int) > 4))) ?_
     rcases bft (decide ((a0.Coins.length : Int) > 4)) with hb8 | hb8
     ·replace hM := ifT hM hb8
      refine On (want := false) hb8 ?_
      refine On (want := false) hb8 ?_
      refine On (want := false) hb8 ?_
      refine On (want := false) hb8 ?_
      refine Pt (.b true) hb8 ?_
      refine Ni ?_
      exact w_goto true (.k .nil) ⟨(hS.keep [] rfl).up (by omega), hM⟩
     ·replace hM := ifF hM hb8
      refine Oy (want := false) hb8 ?_
      refine Of ((Wheel.cells a0)) ty_fo24_2 ?_
      refine Oy (want := false) hb8 ?_
      refine Olp (.sl .no 1 (a0.Coins.map cI)) ty_agg22 ty_sc22 ?_
      refine Oy (want := false) hb8 ?_
      obtain ⟨r9, hr9, hM⟩ := bindE hM
      refine o_call (bs := [.sl .no 1 (a0.Coins.map cI), .i 1, .i 100]) (by decide) rfl rfl ((W_ref01_Rising hr9).le (.k (.k (.k .nil)))) ?_
      refine Oy (want := false) hb8 ?_
      refine o_not (e := r9) (by decide) rfl ?_
      refine Pf (.b (!r9)) hb8 ?_
      refine Ni ?_
      exact w_goto (!r9) (.k .nil) ⟨(hS.keep [] rfl).up (by omega), hM⟩
theorem W_ref01_In {n : Nat} {a0 : List Int} {a1 : Int} {r : Bool} (hM : ref01_In n a0 a1 = some r) : PureSat Try.prog 27 [.sl .no 1 (a0.map cI), .i a1] (.b r) := by
 refine pure_of_wp mixed Try.func27 rfl (by decide) Try.ntmps27 (by simp) ?pure fun H0 g hf => ?_
 case pure => exact .v _
 rw [frame0_of]
 change wpA _ _ _ _ (Fr.of [(0, .sl .no 1 (a0.map cI)), (1, .i a1)]) H0 g
 have hS := St.start hf
 refine Sq ?_
 refine Rg 1 ?_
 refine Oa (.b false) ?_
 refine Ni ?_
 refine Ws ?_
 refine w_join (J := Unit) (fun j => []) (fun j H' g' => St (· < g) H0 [] H' g' ∧ ref01_In_j1 = some r) ?_ ?_
 ·rintro _ H g1 ⟨hS, hM⟩
  change wpA _ _ _ _ (Fr.of []) _ _
  replace hS : St (· < g) H0 [] H g1 := hS
  replace hM : ref01_In_j1 = some r := hM
  refine Sq ?_
  refine Rg 1 ?_
  refine Oa (.b false) ?_
  refine Ni ?_
  refine Ws ?_
  refine r_ret ?_
  refine w_end (x := .b false) (f := fun r => .b r) (.inr rfl) ?_ (.refl _) (Option.some.inj hM) hS
  exact (res_one (res_tmp (x := .b false) rfl))
 ·refine Sq ?_
  refine Rg 1 ?_
  refine Oa (.i 0) ?_
  refine Ni ?_
  refine Ws ?_
  refine r_block ?_
  refine w_loop (V := Int) (fun v => [(0, .sl .no 1 (a0.map cI)), (1, .i a1), (5, .i v)]) (fun v m2 H' g' => St (· < g) H0 [] H' g' ∧ ref01_In_l1 a0 a1 m2 v = some r) (n := n) 0 (.k (.k (.k .nil))) ⟨(hS.keep [] rfl).up (by omega), hM⟩ ?_
  rintro v1 m2 H g2 ⟨hS, hM⟩
  obtain _ | m2 := m2
  ·exact nomatch (show none = some _ from hM)
  change wpA _ _ _ _ (Fr.of [(0, .sl .no 1 (a0.map cI)), (1, .i a1), (5, .i v1)]) _ _
  replace hS : St (· < g) H0 [] H g2 := hS
  replace hM : ref01_In_l1_b a0 a1 (ref01_In_l1 a0 a1 m2) v1 = some r := hM
  refine Sq ?_
  refine Sq ?_
  refine Rg 4 ?_
  refine Om (.i v1) ?_
  refine Om (.sl .no 1 (a0.map cI)) ?_
  refine o_len (n := a0.length) (by decide) rfl (List.length_map _) ty_isl22 ?_
  refine Oi (.b (decide (v1 < (a0.length : Int)))) ?_
  refine Ni ?_
  refine Ws ?_
  rcases bft (decide (v1 < (a0.length : Int))) with hb2 | hb2
  ·replace hM := ifT hM hb2
   refine Ct hb2 ?_
   refine r_skip ?_
   refine Ws ?_
   refine Sq ?_
   refine r_block ?_
   refine Sq ?_
   refine Rg 6 ?_
   refine Om (.sl .no 1 (a0.map cI)) ?_
   refine Om (.i v1) ?_
   obtain ⟨x3, hx3, hM⟩ := bindE hM
   refine o_index (xs := a0) (f := cI) (z := v1) (u := x3) (by decide) rfl rfl ty_es22 hx3 ?_
   refine Olp (.i x3) ty_agg3 ty_sc3 ?_
   refine Om (.i a1) ?_
   refine Oi (.b (x3 == a1)) ?_
   refine Ni ?_
   refine Ws ?_
   rcases bft (x3 == a1) with hb4 | hb4
   ·replace hM := ifT hM hb4
    refine Ct hb4 ?_
    refine Sq ?_
    refine Rg 1 ?_
    refine Oa (.b true) ?_
    refine Ni ?_
    refine Ws ?_
    refine r_ret ?_
    refine r_blk_ret ?_
    refine r_then_ret ?_
    refine w_round_ret ?_
    refine r_blk_ret ?_
    refine w_goto_ret ?_
    refine w_end (x := .b true) (f := fun r => .b r) (.inr rfl) ?_ (.refl _) (Option.some.inj hM) hS
    exact (res_one (res_tmp (x := .b true) rfl))
   ·replace hM := ifF hM hb4
    refine Cf hb4 ?_
    refine r_skip ?_
    refine r_blk_normal ?_
    refine Ws ?_
    refine Rg 3 ?_
    refine Om (.i v1) ?_
    refine Oi (.i (w64 (v1 + 1))) ?_
    refine Oa (.i (w64 (v1 + 1))) ?_
    refine Ni ?_
    exact w_round (w64 (v1 + 1)) (Nat.lt_succ_self _) (.k (.k (.k .nil))) ⟨(hS.keep [] rfl).up (by omega), hM⟩
  ·replace hM := ifF hM hb2
   refine Cf hb2 ?_
   refine r_exit ?_
   refine r_then_exit ?_
   refine w_round_exit ?_
   refine r_blk_exit ?_
   exact w_goto () .nil ⟨(hS.keep [] rfl).up (by omega), hM⟩
theorem W_ref01_Put {n : Nat} {a0 : Wheel} {a1 : Int} {a2 : Int} {r : Int × Int} (hM : ref01_Put n a0 a1 a2 = some r) : PureSat Try.prog 63 [.agg (Wheel.cells a0), .i a1, .i a2] (.tup [.i r.1, .i r.2]) := by
 refine pure_of_wp mixed Try.func63 rfl (by decide) Try.ntmps63 (by simp) ?pure fun H0 g hf => ?_
 case pure => exact .tup _ (pl_cons (.v _) (pl_cons (.v _) pl_nil))
 rw [frame0_of]
 change wpA _ _ _ _ (Fr.of [(0, .agg (Wheel.cells a0)), (1, .i a1), (2, .i a2)]) H0 g
 have hS := St.start hf
 refine Sq ?_
 refine Rg 3 ?_
 refine o_box (v := .agg (Wheel.cells a0)) (cs := (Wheel.cells a0)) hS (by decide) rfl rfl (by omega) fun H hS => ?_
 refine Oa (.i 0) ?_
 refine Oa (.i 0) ?_
 refine Ni ?_
 refine w_iceE (L' := []) 0 3 hS rfl rfl rfl fun H hS => ?_
 refine Ws ?_
 refine w_join (J := Int × Int) (fun j => [(1, .i j.1), (7, .i j.2)]) (fun j H' g' => St (· < g) H0 [] H' g' ∧ ref01_Put_j1 j.1 j.2 = some r) ?_ ?_
 ·rintro ⟨v1, v2⟩ H g1 ⟨hS, hM⟩
  change wpA _ _ _ _ (Fr.of [(1, .i v1), (7, .i v2)]) _ _
  replace hS : St (· < g) H0 [] H g1 := hS
  replace hM : ref01_Put_j1 v1 v2 = some r := hM
  refine Sq ?_
  refine Rg 4 ?_
  refine Om (.i v1) ?_
  refine Om (.i v2) ?_
  refine Oa (.i v1) ?_
  refine Oa (.i v2) ?_
  refine Ni ?_
  refine Ws ?_
  refine r_ret ?_
  refine w_end (x := .tup [.i v1, .i v2]) (f := fun r => .tup [.i r.1, .i r.2]) (.inr rfl) ?_ (.refl _) (Option.some.inj hM) hS
  exact (res_two (res_tmp (x := .i v1) rfl) (res_tmp (x := .i v2) rfl))
 ·refine Sq ?_
  refine Rg 1 ?_
  refine Oa (.i 0) ?_
  refine Ni ?_
  refine Ws ?_
  refine r_block ?_
  refine w_loop (V := Int × Int × Int) (fun v => [(1, .i v.1), (2, .i a2), (3, .ep (Wheel.cells a0)), (7, .i v.2.1), (8, .i v.2.2)]) (fun v m2 H' g' => St (· < g) H0 [] H' g' ∧ ref01_Put_l1 n a0 a2 m2 v.1 v.2.1 v.2.2 = some r) (n := n) (a1, 0, 0) (.k (.k (.k (.k (.k .nil))))) ⟨(hS.keep [] rfl).up (by omega), hM⟩ ?_
  rintro ⟨v3, v4, v5⟩ m2 H g2 ⟨hS, hM⟩
  obtain _ | m2 := m2
  ·exact nomatch (show none = some _ from hM)
  change wpA _ _ _ _ (Fr.of [(1, .i v3), (2, .i a2), (3, .ep (Wheel.cells a0)), (7, .i v4), (8, .i v5)]) _ _
  replace hS : St (· < g) H0 [] H g2 := hS
  replace hM : ref01_Put_l1_b n a0 a2 (ref01_Put_l1 n a0 a2 m2) v3 v4 v5 = some r := hM
  refine Sq ?_
  refine Sq ?_
  refine Rg 3 ?_
  refine Om (.i v5) ?_
  refine Om (.i a2) ?_
  refine Oi (.b (decide (v5 < a2))) ?_
  refine Ni ?_
  refine Ws ?_
  rcases bft (decide (v5 < a2)) with hb6 | hb6
  ·replace hM := ifT hM hb6
   refine Ct hb6 ?_
   refine r_skip ?_
   refine Ws ?_
   refine w_join (J := Int × Int) (fun j => [(1, .i j.1), (2, .i a2), (3, .ep (Wheel.cells a0)), (7, .i j.2), (8, .i v5)]) (fun j H' g' => St (· < g) H0 [] H' g' ∧ ref01_Put_j2 (ref01_Put_l1 n a0 a2 m2) v5 j.1 j.2 = some r) ?_ ?_
   ·rintro ⟨v7, v8⟩ H g3 ⟨hS, hM⟩
    change wpA _ _ _ _ (Fr.of [(1, .i v7), (2, .i a2), (3, .ep (Wheel.cells a0)), (7, .i v8), (8, .i v5)]) _ _
    replace hS : St (· < g) H0 [] H g3 := hS
    replace hM : ref01_Put_j2 (ref01_Put_l1 n a0 a2 m2) v5 v7 v8 = some r := hM
    refine Rg 3 ?_
    refine Om (.i v5) ?_
    refine Oi (.i (w64 (v5 + 1))) ?_
    refine Oa (.i (w64 (v5 + 1))) ?_
    refine Ni ?_
    exact w_round (v7, v8, w64 (v5 + 1)) (Nat.lt_succ_self _) (.k (.k (.k (.k (.k .nil))))) ⟨(hS.keep [] rfl).up (by omega), hM⟩
   ·refine r_block ?_
    refine Sq ?_
    refine Rg 3 ?_
    refine Om (.i v3) ?_
    refine Oi (.i (w64 (v3 + 1))) ?_
    refine Oa (.i (w64 (v3 + 1))) ?_
    refine Ni ?_
    refine Ws ?_
    refine w_join (J := Int) (fun j => [(1, .i (w64 (v3 + 1))), (2, .i a2), (3, .ep (Wheel.cells a0)), (7, .i j), (8, .i v5)]) (fun j H' g' => St (· < g) H0 [] H' g' ∧ ref01_Put_j3 (ref01_Put_l1 n a0 a2 m2) a0 v3 v5 j = some r) ?_ ?_
    ·rintro v9 H g4 ⟨hS, hM⟩
     change wpA _ _ _ _ (Fr.of [(1, .i (w64 (v3 + 1))), (2, .i a2), (3, .ep (Wheel.cells a0)), (7, .i v9), (8, .i v5)]) _ _
     replace hS : St (· < g) H0 [] H g4 := hS
     replace hM : ref01_Put_j3 (ref01_Put_l1 n a0 a2 m2) a0 v3 v5 v9 = some r := hM
     refine Sq ?_
     refine Rg 4 ?_
     refine Om (.i (w64 (v3 + 1))) ?_
     refine Of ((Wheel.cells a0)) ty_fo24_0 ?_
     refine Olp (.i a0.Round) ty_agg3 ty_sc3 ?_
     refine Oi (.b ((w64 (v3 + 1)) == a0.Round)) ?_
     refine Ni ?_
     refine Ws ?_
     rcases bft ((w64 (v3 + 1)) == a0.Round) with hb10 | hb10
     ·replace hM := ifT hM hb10
      refine Ct hb10 ?_
      refine Rg 1 ?_
      refine Oa (.i 0) ?_
      refine Ni ?_
      refine r_blk_normal ?_
      exact w_goto (0, v9) (.k (.k (.k (.k (.k .nil))))) ⟨(hS.keep [] rfl).up (by omega), hM⟩
     ·replace hM := ifF hM hb10
      refine Cf hb10 ?_
      refine r_skip ?_
      refine r_blk_normal ?_
      exact w_goto (w64 (v3 + 1), v9) (.k (.k (.k (.k (.k .nil))))) ⟨(hS.keep [] rfl).up (by omega), hM⟩
    ·refine Sq ?_
     refine Rg 4 ?_
     refine Of ((Wheel.cells a0)) ty_fo24_1 ?_
     refine Olp (.sl .no 1 (a0.Notches.map cI)) ty_agg22 ty_sc22 ?_
     refine Om (.i (w64 (v3 + 1))) ?_
     obtain ⟨r11, hr11, hM⟩ := bindE hM
     refine o_call (bs := [.sl .no 1 (a0.Notches.map cI), .i (w64 (v3 + 1))]) (by decide) rfl rfl ((W_ref01_In hr11).le (.k (.k .nil))) ?_
     refine Ni ?_
     refine Ws ?_
     rcases bft r11 with hb12 | hb12
     ·replace hM := ifT hM hb12
      refine Ct hb12 ?_
      refine Rg 3 ?_
      refine Om (.i v4) ?_
      refine Oi (.i (w64 (v4 + 1))) ?_
      refine Oa (.i (w64 (v4 + 1))) ?_
      refine Ni ?_
      exact w_goto (w64 (v4 + 1)) (.k (.k (.k (.k (.k .nil))))) ⟨(hS.keep [] rfl).up (by omega), hM⟩
     ·replace hM := ifF hM hb12
      refine Cf hb12 ?_
      refine r_skip ?_
      exact w_goto v4 (.k (.k (.k (.k (.k .nil))))) ⟨(hS.keep [] rfl).up (by omega), hM⟩
  ·replace hM := ifF hM hb6
   refine Cf hb6 ?_
   refine r_exit ?_
   refine r_then_exit ?_
   refine w_round_exit ?_
   refine r_blk_exit ?_
   exact w_goto (v3, v4) (.k (.k .nil)) ⟨(hS.keep [] rfl).up (by omega), hM⟩
theorem W_law01_same {n : Nat} {a0 : Wheel} {a1 : Wheel} {r : Bool} (hM : law01_same n a0 a1 = some r) : PureSat Try.prog 21 [.agg (Wheel.cells a0), .agg (Wheel.cells a1)] (.b r) := by
 refine pure_of_wp mixed Try.func21 rfl (by decide) Try.ntmps21 (by simp) ?pure fun H0 g hf => ?_
 case pure => exact .v _
 rw [frame0_of]
 change wpA _ _ _ _ (Fr.of [(0, .agg (Wheel.cells a0)), (1, .agg (Wheel.cells a1))]) H0 g
 have hS := St.start hf
 refine Sq ?_
 refine Rg 3 ?_
 refine o_box (v := .agg (Wheel.cells a0)) (cs := (Wheel.cells a0)) hS (by decide) rfl rfl (by omega) fun H hS => ?_
 refine o_box (v := .agg (Wheel.cells a1)) (cs := (Wheel.cells a1)) hS (by decide) rfl rfl (by omega) fun H hS => ?_
 refine Oa (.b false) ?_
 refine Ni ?_
 refine w_iceE (L' := [(g + 1, .cells (Wheel.cells a1))]) 1 2 hS rfl rfl rfl fun H hS => ?_
 refine w_iceE (L' := []) 0 3 hS rfl rfl rfl fun H hS => ?_
 refine Ws ?_
 refine w_join (J := Bool) (fun j => [(4, .b j)]) (fun j H' g' => St (· < g) H0 [] H' g' ∧ law01_same_j1 j = some r) ?_ ?_
 ·rintro v1 H g1 ⟨hS, hM⟩
  change wpA _ _ _ _ (Fr.of [(4, .b v1)]) _ _
  replace hS : St (· < g) H0 [] H g1 := hS
  replace hM : law01_same_j1 v1 = some r := hM
  refine r_ret ?_
  refine w_end (x := .b v1) (f := fun r => .b r) (.inr rfl) ?_ (.refl _) (Option.some.inj hM) hS
  exact (res_one (res_tmp (x := .b v1) rfl))
 ·refine Rg 20 ?_
  refine Of ((Wheel.cells a0)) ty_fo24_0 ?_
  refine Olp (.i a0.Round) ty_agg3 ty_sc3 ?_
  refine Of ((Wheel.cells a1)) ty_fo24_0 ?_
  refine Olp (.i a1.Round) ty_agg3 ty_sc3 ?_
  refine Oi (.b (a0.Round == a1.Round)) ?_
  refine Om (.b (a0.Round == a1.Round)) ?_
  rcases bft (a0.Round == a1.Round) with hb2 | hb2
  ·replace hM := ifT hM hb2
   refine Oy (want := true) hb2 ?_
   refine Of ((Wheel.cells a0)) ty_fo24_1 ?_
   refine Oy (want := true) hb2 ?_
   refine Olp (.sl .no 1 (a0.Notches.map cI)) ty_agg22 ty_sc22 ?_
   refine Oy (want := true) hb2 ?_
   refine Of ((Wheel.cells a1)) ty_fo24_1 ?_
   refine Oy (want := true) hb2 ?_
   refine Olp (.sl .no 1 (a1.Notches.map cI)) ty_agg22 ty_sc22 ?_
   refine Oy (want := true) hb2 ?_
   obtain ⟨r3, hr3, hM⟩ := bindE hM
   refine o_call (bs := [.sl .no 1 (a0.Notches.map cI), .sl .no 1 (a1.Notches.map cI)]) (by decide) rfl rfl ((W_ref01_SameInts hr3).le (.k (.k .nil))) ?_
   refine Pt (.b r3) hb2 ?_
   refine Om (.b r3) ?_
   rcases bft r3 with hb4 | hb4
   ·replace hM := ifT hM hb4
    refine Oy (want := true) hb4 ?_
    refine Of ((Wheel.cells a0)) ty_fo24_2 ?_
    refine Oy (want := true) hb4 ?_
    refine Olp (.sl .no 1 (a0.Coins.map cI)) ty_agg22 ty_sc22 ?_
    refine Oy (want := true) hb4 ?_
    refine Of ((Wheel.cells a1)) ty_fo24_2 ?_
    refine Oy (want := true) hb4 ?_
    refine Olp (.sl .no 1 (a1.Coins.map cI)) ty_agg22 ty_sc22 ?_
    refine Oy (want := true) hb4 ?_
    obtain ⟨r5, hr5, hM⟩ := bindE hM
    refine o_call (bs := [.sl .no 1 (a0.Coins.map cI), .sl .no 1 (a1.Coins.map cI)]) (by decide) rfl rfl ((W_ref01_SameInts hr5).le (.k (.k .nil))) ?_
    refine Pt (.b r5) hb4 ?_
    refine Oa (.b r5) ?_
    refine Ni ?_
    exact w_goto r5 (.k .nil) ⟨(hS.keep [] rfl).up (by omega), hM⟩
   ·replace hM := ifF hM hb4
    refine On (want := true) hb4 ?_
    refine On (want := true) hb4 ?_
    refine On (want := true) hb4 ?_
    refine On (want := true) hb4 ?_
    refine On (want := true) hb4 ?_
    refine Pf (.b false) hb4 ?_
    refine Oa (.b false) ?_
    refine Ni ?_
    exact w_goto false (.k .nil) ⟨(hS.keep [] rfl).up (by omega), hM⟩
  ·replace hM := ifF hM hb2
   refine On (want := true) hb2 ?_
   refine On (want := true) hb2 ?_
   refine On (want := true) hb2 ?_
   refine On (want := true) hb2 ?_
   refine On (want := true) hb2 ?_
   refine Pf (.b false) hb2 ?_
   refine Om (.b false) ?_
   refine Og ?_
   refine Og ?_
   refine Og ?_
   refine Og ?_
   refine Og ?_
   refine o_pickF (v := .b false) (e := false) (by decide) rfl rfl rfl ?_
   refine Oa (.b false) ?_
   refine Ni ?_
   exact w_goto false (.k .nil) ⟨(hS.keep [] rfl).up (by omega), hM⟩
theorem W_ref01_IsPurse {n : Nat} {a0 : Wheel} {a1 : List Int} {r : Bool} (hM : ref01_IsPurse n a0 a1 = some r) : PureSat Try.prog 23 [.agg (Wheel.cells a0), .sl .no 1 (a1.map cI)] (.b r) := by
 refine pure_of_wp mixed Try.func23 rfl (by decide) Try.ntmps23 (by simp) ?pure fun H0 g hf => ?_
 case pure => exact .v _
 rw [frame0_of]
 change wpA _ _ _ _ (Fr.of [(0, .agg (Wheel.cells a0)), (1, .sl .no 1 (a1.map cI))]) H0 g
 have hS := St.start hf
 refine Sq ?_
 refine Rg 2 ?_
 refine o_box (v := .agg (Wheel.cells a0)) (cs := (Wheel.cells a0)) hS (by decide) rfl rfl (by omega) fun H hS => ?_
 refine Oa (.b false) ?_
 refine Ni ?_
 refine w_iceE (L' := []) 0 2 hS rfl rfl rfl fun H hS => ?_
 refine Ws ?_
 refine Sq ?_
 refine Sq ?_
 refine Rg 6 ?_
 refine Om (.sl .no 1 (a1.map cI)) ?_
 refine o_len (n := a1.length) (by decide) rfl (List.length_map _) ty_isl22 ?_
 refine Of ((Wheel.cells a0)) ty_fo24_2 ?_
 refine Olp (.sl .no 1 (a0.Coins.map cI)) ty_agg22 ty_sc22 ?_
 refine o_len (n := a0.Coins.length) (by decide) rfl (List.length_map _) ty_isl22 ?_
 refine Oi (.b ((a1.length : Int) != (a0.Coins.length : Int))) ?_
 refine Ni ?_
 refine Ws ?_
 rcases bft ((a1.length : Int) != (a0.Coins.length : Int)) with hb1 | hb1
 ·replace hM := ifT hM hb1
  refine Ct hb1 ?_
  refine Sq ?_
  refine Rg 1 ?_
  refine Oa (.b false) ?_
  refine Ni ?_
  refine Ws ?_
  refine r_ret ?_
  refine r_then_ret ?_
  refine w_end (x := .b false) (f := fun r => .b r) (.inr rfl) ?_ (.refl _) (Option.some.inj hM) hS
  exact (res_one (res_tmp (x := .b false) rfl))
 ·replace hM := ifF hM hb1
  refine Cf hb1 ?_
  refine r_skip ?_
  refine Ws ?_
  refine Sq ?_
  refine Rg 1 ?_
  refine Oa (.i 0) ?_
  refine Ni ?_
  refine Ws ?_
  refine w_join (J := Int) (fun j => [(5, .i j)]) (fun j H' g' => St (· < g) H0 [] H' g' ∧ ref01_IsPurse_j1 j = some r) ?_ ?_
  ·rintro v2 H g1 ⟨hS, hM⟩
   change wpA _ _ _ _ (Fr.of [(5, .i v2)]) _ _
   replace hS : St (· < g) H0 [] H g1 := hS
   replace hM : ref01_IsPurse_j1 v2 = some r := hM
   refine Sq ?_
   refine Rg 3 ?_
   refine Om (.i v2) ?_
   refine Oi (.b (decide (v2 ≤ 12))) ?_
   refine Oa (.b (decide (v2 ≤ 12))) ?_
   refine Ni ?_
   refine Ws ?_
   refine r_ret ?_
   refine w_end (x := .b (decide (v2 ≤ 12))) (f := fun r => .b r) (.inr rfl) ?_ (.refl _) (Option.some.inj hM) hS
   exact (res_one (res_tmp (x := .b (decide (v2 ≤ 12))) rfl))
  ·refine Sq ?_
   refine Rg 1 ?_
   refine Oa (.i 0) ?_
   refine Ni ?_
   refine Ws ?_
   refine r_block ?_
   refine w_loop (V := Int × Int) (fun v => [(1, .sl .no 1 (a1.map cI)), (5, .i v.1), (6, .i v.2)]) (fun v m2 H' g' => St (· < g) H0 [] H' g' ∧ ref01_IsPurse_l1 a1 m2 v.1 v.2 = some r) (n := n) (0, 0) (.k (.k (.k .nil))) ⟨(hS.keep [] rfl).up (by omega), hM⟩ ?_
   rintro ⟨v3, v4⟩ m2 H g2 ⟨hS, hM⟩
   obtain _ | m2 := m2
   ·exact nomatch (show none = some _ from hM)
   change wpA _ _ _ _ (Fr.of [(1, .sl .no 1 (a1.map cI)), (5, .i v3), (6, .i v4)]) _ _
   replace hS : St (· < g) H0 [] H g2 := hS
   replace hM : ref01_IsPurse_l1_b a1 (ref01_IsPurse_l1 a1 m2) v3 v4 = some r := hM
   refine Sq ?_
   refine Sq ?_
   refine Rg 4 ?_
   refine Om (.i v4) ?_
   refine Om (.sl .no 1 (a1.map cI)) ?_
   refine o_len (n := a1.length) (by decide) rfl (List.length_map _) ty_isl22 ?_
   refine Oi (.b (decide (v4 < (a1.length : Int)))) ?_
   refine Ni ?_
   refine Ws ?_
   rcases bft (decide (v4 < (a1.length : Int))) with hb5 | hb5
   ·replace hM := ifT hM hb5
    refine Ct hb5 ?_
    refine r_skip ?_
    refine Ws ?_
    refine Sq ?_
    refine r_block ?_
    refine Sq ?_
    refine Sq ?_
    refine Rg 6 ?_
    refine Om (.sl .no 1 (a1.map cI)) ?_
    refine Om (.i v4) ?_
    obtain ⟨x6, hx6, hM⟩ := bindE hM
    refine o_index (xs := a1) (f := cI) (z := v4) (u := x6) (by decide) rfl rfl ty_es22 hx6 ?_
    refine Olp (.i x6) ty_agg3 ty_sc3 ?_
    obtain ⟨r7, hr7, hM⟩ := bindE hM
    refine o_call (bs := [.i x6, .i 0, .i 12]) (by decide) rfl rfl ((W_ref01_Within hr7).le (.k (.k (.k .nil)))) ?_
    refine o_not (e := r7) (by decide) rfl ?_
    refine Ni ?_
    refine Ws ?_
    rcases bft (!r7) with hb8 | hb8
    ·replace hM := ifT hM hb8
     refine Ct hb8 ?_
     refine Sq ?_
     refine Rg 1 ?_
     refine Oa (.b false) ?_
     refine Ni ?_
     refine Ws ?_
     refine r_ret ?_
     refine r_then_ret ?_
     refine r_blk_ret ?_
     refine r_then_ret ?_
     refine w_round_ret ?_
     refine r_blk_ret ?_
     refine w_goto_ret ?_
     refine w_end (x := .b false) (f := fun r => .b r) (.inr rfl) ?_ (.refl _) (Option.some.inj hM) hS
     exact (res_one (res_tmp (x := .b false) rfl))
    ·replace hM := ifF hM hb8
     refine Cf hb8 ?_
     refine r_skip ?_
     refine Ws ?_
     refine Rg 7 ?_
     refine Om (.i v3) ?_
     refine Om (.sl .no 1 (a1.map cI)) ?_
     refine Om (.i v4) ?_
     obtain ⟨x9, hx9, hM⟩ := bindE hM
     refine o_index (xs := a1) (f := cI) (z := v4) (u := x9) (by decide) rfl rfl ty_es22 hx9 ?_
     refine Olp (.i x9) ty_agg3 ty_sc3 ?_
     refine Oi (.i (w64 (v3 + x9))) ?_
     refine Oa (.i (w64 (v3 + x9))) ?_
     refine Ni ?_
     refine r_blk_normal ?_
     refine Ws ?_
     refine Rg 3 ?_
     refine Om (.i v4) ?_
     refine Oi (.i (w64 (v4 + 1))) ?_
     refine Oa (.i (w64 (v4 + 1))) ?_
     refine Ni ?_
     exact w_round (w64 (v3 + x9), w64 (v4 + 1)) (Nat.lt_succ_self _) (.k (.k (.k .nil))) ⟨(hS.keep [] rfl).up (by omega), hM⟩
   ·replace hM := ifF hM hb5
    refine Cf hb5 ?_
    refine r_exit ?_
    refine r_then_exit ?_
    refine w_round_exit ?_
    refine r_blk_exit ?_
    exact w_goto v3 (.k .nil) ⟨(hS.keep [] rfl).up (by omega), hM⟩
theorem W_law01_rich {n : Nat} {a0 : Wheel} {a1 : List Int} {r : Bool} (hM : law01_rich n a0 a1 = some r) : PureSat Try.prog 24 [.agg (Wheel.cells a0), .sl .no 1 (a1.map cI)] (.b r) := by
 refine pure_of_wp mixed Try.func24 rfl (by decide) Try.ntmps24 (by simp) ?pure fun H0 g hf => ?_
 case pure => exact .v _
 rw [frame0_of]
 change wpA _ _ _ _ (Fr.of [(0, .agg (Wheel.cells a0)), (1, .sl .no 1 (a1.map cI))]) H0 g
 have hS := St.start hf
 refine Sq ?_
 refine Rg 2 ?_
 refine o_box (v := .agg (Wheel.cells a0)) (cs := (Wheel.cells a0)) hS (by decide) rfl rfl (by omega) fun H hS => ?_
 refine Oa (.b false) ?_
 refine Ni ?_
 refine w_iceE (L' := []) 0 2 hS rfl rfl rfl fun H hS => ?_
 refine Ws ?_
 refine Sq ?_
 refine Sq ?_
 refine Rg 3 ?_
 refine Om (.sl .no 1 (a1.map cI)) ?_
 refine o_len (n := a1.length) (by decide) rfl (List.length_map _) ty_isl22 ?_
 refine Oi (.b (decide ((a1.length : Int) > 40))) ?_
 refine Ni ?_
 refine Ws ?_
 rcases bft (decide ((a1.length : Int) > 40)) with hb1 | hb1
 ·replace hM := ifT hM hb1
  refine Ct hb1 ?_
  refine Sq ?_
  refine Rg 1 ?_
  refine Oa (.b true) ?_
  refine Ni ?_
  refine Ws ?_
  refine r_ret ?_
  refine r_then_ret ?_
  refine w_end (x := .b true) (f := fun r => .b r) (.inr rfl) ?_ (.refl _) (Option.some.inj hM) hS
  exact (res_one (res_tmp (x := .b true) rfl))
 ·replace hM := ifF hM hb1
  refine Cf hb1 ?_
  refine r_skip ?_
  refine Ws ?_
  refine Sq ?_
  refine w_join (J := Bool) (fun j => [(1, .sl .no 1 (a1.map cI)), (18, .b j)]) (fun j H' g' => St (· < g) H0 [] H' g' ∧ law01_rich_j1 n a1 j = some r) ?_ ?_
  ·rintro v2 H g1 ⟨hS, hM⟩
   change wpA _ _ _ _ (Fr.of [(1, .sl .no 1 (a1.map cI)), (18, .b v2)]) _ _
   replace hS : St (· < g) H0 [] H g1 := hS
   replace hM : law01_rich_j1 n a1 v2 = some r := hM
   rcases bft v2 with hb3 | hb3
   ·replace hM := ifT hM hb3
    refine Ct hb3 ?_
    refine Sq ?_
    refine Rg 1 ?_
    refine Oa (.b false) ?_
    refine Ni ?_
    refine Ws ?_
    refine r_ret ?_
    refine r_then_ret ?_
    refine w_end (x := .b false) (f := fun r => .b r) (.inr rfl) ?_ (.refl _) (Option.some.inj hM) hS
    exact (res_one (res_tmp (x := .b false) rfl))
   ·replace hM := ifF hM hb3
    refine Cf hb3 ?_
    refine r_skip ?_
    refine Ws ?_
    refine Sq ?_
    refine Rg 1 ?_
    refine Oa (.i 0) ?_
    refine Ni ?_
    refine Ws ?_
    refine w_join (J := Int) (fun j => [(5, .i j)]) (fun j H' g' => St (· < g) H0 [] H' g' ∧ law01_rich_j2 j = some r) ?_ ?_
    ·rintro v4 H g2 ⟨hS, hM⟩
     change wpA _ _ _ _ (Fr.of [(5, .i v4)]) _ _
     replace hS : St (· < g) H0 [] H g2 := hS
     replace hM : law01_rich_j2 v4 = some r := hM
     refine Sq ?_
     refine Rg 3 ?_
     refine Om (.i v4) ?_
     refine Oi (.b (decide (v4 > 6))) ?_
     refine Oa (.b (decide (v4 > 6))) ?_
     refine Ni ?_
     refine Ws ?_
     refine r_ret ?_
     refine w_end (x := .b (decide (v4 > 6))) (f := fun r => .b r) (.inr rfl) ?_ (.refl _) (Option.some.inj hM) hS
     exact (res_one (res_tmp (x := .b (decide (v4 > 6))) rfl))
    ·refine Sq ?_
     refine Rg 1 ?_
     refine Oa (.i 0) ?_
     refine Ni ?_
     refine Ws ?_
     refine r_block ?_
     refine w_loop (V := Int × Int) (fun v => [(1, .sl .no 1 (a1.map cI)), (5, .i v.1), (6, .i v.2)]) (fun v m3 H' g' => St (· < g) H0 [] H' g' ∧ law01_rich_l1 a1 m3 v.1 v.2 = some r) (n := n) (0, 0) (.k (.k (.k .nil))) ⟨(hS.keep [] rfl).up (by omega), hM⟩ ?_
     rintro ⟨v5, v6⟩ m3 H g3 ⟨hS, hM⟩
     obtain _ | m3 := m3
     ·exact nomatch (show none = some _ from hM)
     change wpA _ _ _ _ (Fr.of [(1, .sl .no 1 (a1.map cI)), (5, .i v5), (6, .i v6)]) _ _
     replace hS : St (· < g) H0 [] H g3 := hS
     replace hM : law01_rich_l1_b a1 (law01_rich_l1 a1 m3) v5 v6 = some r := hM
     refine Sq ?_
     refine Sq ?_
     refine Rg 4 ?_
     refine Om (.i v6) ?_
     refine Om (.sl .no 1 (a1.map cI)) ?_
     refine o_len (n := a1.length) (by decide) rfl (List.length_map _) ty_isl22 ?_
     refine Oi (.b (decide (v6 < (a1.length : Int)))) ?_
     refine Ni ?_
     refine Ws ?_
     rcases bft (decide (v6 < (a1.length : Int))) with hb7 | hb7
     ·replace hM := ifT hM hb7
      refine Ct hb7 ?_
      refine r_skip ?_
      refine Ws ?_
      refine Sq ?_
      refine r_block ?_
      refine Rg 7 ?_
      refine Om (.i v5) ?_
      refine Om (.sl .no 1 (a1.map cI)) ?_
      refine Om (.i v6) ?_
      obtain ⟨x8, hx8, hM⟩ := bindE hM
      refine o_index (xs := a1) (f := cI) (z := v6) (u := x8) (by decide) rfl rfl ty_es22 hx8 ?_
      refine Olp (.i x8) ty_agg3 ty_sc3 ?_
      refine Oi (.i (w64 (v5 + x8))) ?_
      refine Oa (.i (w64 (v5 + x8))) ?_
      refine Ni ?_
      refine r_blk_normal ?_
      refine Ws ?_
      refine Rg 3 ?_
      refine Om (.i v6) ?_
      refine Oi (.i (w64 (v6 + 1))) ?_
      refine Oa (.i (w64 (v6 + 1))) ?_
      refine Ni ?_
      exact w_round (w64 (v5 + x8), w64 (v6 + 1)) (Nat.lt_succ_self _) (.k (.k (.k .nil))) ⟨(hS.keep [] rfl).up (by omega), hM⟩
     ·replace hM := ifF hM hb7
      refine Cf hb7 ?_
      refine r_exit ?_
      refine r_then_exit ?_
      refine w_round_exit ?_
      refine r_blk_exit ?_
      exact w_goto v5 (.k .nil) ⟨(hS.keep [] rfl).up (by omega), hM⟩
  ·refine Rg 9 ?_
   refine Olg (.agg (Wheel.cells a0)) ty_agg24 ?_
   obtain ⟨r9, hr9, hM⟩ := bindE hM
   refine o_call (bs := [.agg (Wheel.cells a0)]) (by decide) rfl rfl ((W_ref01_Check hr9).le (.k .nil)) ?_
   refine Oi (.b (r9 != 0)) ?_
   refine Om (.b (r9 != 0)) ?_
   rcases bft (r9 != 0) with hb10 | hb10
   ·replace hM := ifT hM hb10
    refine On (want := false) hb10 ?_
    refine On (want := false) hb10 ?_
    refine On (want := false) hb10 ?_
    refine On (want := false) hb10 ?_
    refine Pt (.b true) hb10 ?_
    refine Ni ?_
    exact w_goto true (.k (.k .nil)) ⟨(hS.keep [] rfl).up (by omega), hM⟩
   ·replace hM := ifF hM hb10
    refine Oy (want := false) hb10 ?_
    refine Olg (.agg (Wheel.cells a0)) ty_agg24 ?_
    refine Oy (want := false) hb10 ?_
    refine Om (.sl .no 1 (a1.map cI)) ?_
    refine Oy (want := false) hb10 ?_
    obtain ⟨r11, hr11, hM⟩ := bindE hM
    refine o_call (bs := [.agg (Wheel.cells a0), .sl .no 1 (a1.map cI)]) (by decide) rfl rfl ((W_ref01_IsPurse hr11).le (.k (.k .nil))) ?_
    refine Oy (want := false) hb10 ?_
    refine o_not (e := r11) (by decide) rfl ?_
    refine Pf (.b (!r11)) hb10 ?_
    refine Ni ?_
    exact w_goto (!r11) (.k (.k .nil)) ⟨(hS.keep [] rfl).up (by omega), hM⟩
theorem W_ref01_PurseWorth {n : Nat} {a0 : Wheel} {a1 : List Int} {r : Int} (hM : ref01_PurseWorth n a0 a1 = some r) : PureSat Try.prog 29 [.agg (Wheel.cells a0), .sl .no 1 (a1.map cI)] (.i r) := by
 refine pure_of_wp mixed Try.func29 rfl (by decide) Try.ntmps29 (by simp) ?pure fun H0 g hf => ?_
 case pure => exact .v _
 rw [frame0_of]
 change wpA _ _ _ _ (Fr.of [(0, .agg (Wheel.cells a0)), (1, .sl .no 1 (a1.map cI))]) H0 g
 have hS := St.start hf
 refine Sq ?_
 refine Rg 2 ?_
 refine o_box (v := .agg (Wheel.cells a0)) (cs := (Wheel.cells a0)) hS (by decide) rfl rfl (by omega) fun H hS => ?_
 refine Oa (.i 0) ?_
 refine Ni ?_
 refine w_iceE (L' := []) 0 2 hS rfl rfl rfl fun H hS => ?_
 refine Ws ?_
 refine Sq ?_
 refine Rg 1 ?_
 refine Oa (.i 0) ?_
 refine Ni ?_
 refine Ws ?_
 refine w_join (J := Int) (fun j => [(5, .i j)]) (fun j H' g' => St (· < g) H0 [] H' g' ∧ ref01_PurseWorth_j1 j = some r) ?_ ?_
 ·rintro v1 H g1 ⟨hS, hM⟩
  change wpA _ _ _ _ (Fr.of [(5, .i v1)]) _ _
  replace hS : St (· < g) H0 [] H g1 := hS
  replace hM : ref01_PurseWorth_j1 v1 = some r := hM
  refine Sq ?_
  refine Rg 2 ?_
  refine Om (.i v1) ?_
  refine Oa (.i v1) ?_
  refine Ni ?_
  refine Ws ?_
  refine r_ret ?_
  refine w_end (x := .i v1) (f := fun r => .i r) (.inr rfl) ?_ (.refl _) (Option.some.inj hM) hS
  exact (res_one (res_tmp (x := .i v1) rfl))
 ·refine Sq ?_
  refine Rg 1 ?_
  refine Oa (.i 0) ?_
  refine Ni ?_
  refine Ws ?_
  refine r_block ?_
  refine w_loop (V := Int × Int) (fun v => [(1, .sl .no 1 (a1.map cI)), (2, .ep (Wheel.cells a0)), (5, .i v.1), (6, .i v.2)]) (fun v m2 H' g' => St (· < g) H0 [] H' g' ∧ ref01_PurseWorth_l1 a0 a1 m2 v.1 v.2 = some r) (n := n) (0, 0) (.k (.k (.k (.k .nil)))) ⟨(hS.keep [] rfl).up (by omega), hM⟩ ?_
  rintro ⟨v2, v3⟩ m2 H g2 ⟨hS, hM⟩
  obtain _ | m2 := m2
  ·exact nomatch (show none = some _ from hM)
  change wpA _ _ _ _ (Fr.of [(1, .sl .no 1 (a1.map cI)), (2, .ep (Wheel.cells a0)), (5, .i v2), (6, .i v3)]) _ _
  replace hS : St (· < g) H0 [] H g2 := hS
  replace hM : ref01_PurseWorth_l1_b a0 a1 (ref01_PurseWorth_l1 a0 a1 m2) v2 v3 = some r := hM
  refine Sq ?_
  refine Sq ?_
  refine Rg 4 ?_
  refine Om (.i v3) ?_
  refine Om (.sl .no 1 (a1.map cI)) ?_
  refine o_len (n := a1.length) (by decide) rfl (List.length_map _) ty_isl22 ?_
  refine Oi (.b (decide (v3 < (a1.length : Int)))) ?_
  refine Ni ?_
  refine Ws ?_
  rcases bft (decide (v3 < (a1.length : Int))) with hb4 | hb4
  ·replace hM := ifT hM hb4
   refine Ct hb4 ?_
   refine r_skip ?_
   refine Ws ?_
   refine Sq ?_
   refine r_block ?_
   have hS0 := hS
   refine r_draw (n := 13) rfl (by kernel_rfl) ?_
   refine Om (.i v2) ?_
   refine Om (.sl .no 1 (a1.map cI)) ?_
   refine Om (.i v3) ?_
   obtain ⟨x5, hx5, hM⟩ := bindE hM
   refine o_index (xs := a1) (f := cI) (z := v3) (u := x5) (by decide) rfl rfl ty_es22 hx5 ?_
   refine Olp (.i x5) ty_agg3 ty_sc3 ?_
   refine Of ((Wheel.cells a0)) ty_fo24_2 ?_
   refine Olp (.sl .no 1 (a0.Coins.map cI)) ty_agg22 ty_sc22 ?_
   refine Om (.i v3) ?_
   obtain ⟨x6, hx6, hM⟩ := bindE hM
   refine o_index (xs := a0.Coins) (f := cI) (z := v3) (u := x6) (by decide) rfl rfl ty_es22 hx6 ?_
   refine Olp (.i x6) ty_agg3 ty_sc3 ?_
   refine Oi (.i (w64 (x5 * x6))) ?_
   refine Oi (.i (w64 (v2 + (w64 (x5 * x6))))) ?_
   refine Oa (.i (w64 (v2 + (w64 (x5 * x6))))) ?_
   refine Ni ?_
   refine r_blk_normal ?_
   refine Ws ?_
   refine Rg 3 ?_
   refine Om (.i v3) ?_
   refine Oi (.i (w64 (v3 + 1))) ?_
   refine Oa (.i (w64 (v3 + 1))) ?_
   refine Ni ?_
   exact w_round (w64 (v2 + (w64 (x5 * x6))), w64 (v3 + 1)) (Nat.lt_succ_self _) (.k (.k (.k (.k .nil)))) ⟨(hS.keep [] rfl).up (by omega), hM⟩
  ·replace hM := ifF hM hb4
   refine Cf hb4 ?_
   refine r_exit ?_
   refine r_then_exit ?_
   refine w_round_exit ?_
   refine r_blk_exit ?_
   exact w_goto v2 (.k .nil) ⟨(hS.keep [] rfl).up (by omega), hM⟩
theorem W_ref01_Act {n : Nat} {a0 : Wheel} {a1 : Stand} {a2 : Int} {r : Stand × Bool} (hM : ref01_Act n a0 a1 a2 = some r) : PureSat Try.prog 79 [.agg (Wheel.cells a0), .agg (Stand.cells a1), .i a2] (.tup [.agg [.i r.1.Place, .i r.1.Credit], .b r.2]) := by
 refine pure_of_wp mixed Try.func79 rfl (by decide) Try.ntmps79 (by simp) ?pure fun H0 g hf => ?_
 case pure => exact .tup _ (pl_cons (.agg _ (pl_cons (.v _) (pl_cons (.v _) pl_nil))) (pl_cons (.v _) pl_nil))
 rw [frame0_of]
 change wpA _ _ _ _ (Fr.of [(0, .agg (Wheel.cells a0)), (1, .agg (Stand.cells a1)), (2, .i a2)]) H0 g
 have hS := St.start hf
 refine Sq ?_
 refine Rg 4 ?_
 refine o_box (v := .agg (Wheel.cells a0)) (cs := (Wheel.cells a0)) hS (by decide) rfl rfl (by omega) fun H hS => ?_
 refine o_box (v := .agg (Stand.cells a1)) (cs := (Stand.cells a1)) hS (by decide) rfl rfl (by omega) fun H hS => ?_
 refine o_alloc hS (by decide) ty_zero57 (by omega) fun H hS => ?_
 refine Oa (.b false) ?_
 refine Ni ?_
 refine w_iceE (L' := [(g + 2, .cells [.i 0, .i 0]), (g + 1, .cells (Stand.cells a1))]) 2 3 hS rfl rfl rfl fun H hS => ?_
 refine w_iceE (L' := [(g + 2, .cells [.i 0, .i 0])]) 1 4 hS rfl rfl rfl fun H hS => ?_
 refine Ws ?_
 refine Sq ?_
 refine Sq ?_
 refine Rg 2 ?_
 refine Om (.i a2) ?_
 refine Oi (.b (decide (a2 ≥ 0))) ?_
 refine Ni ?_
 refine Ws ?_
 rcases bft (decide (a2 ≥ 0)) with hb1 | hb1
 ·replace hM := ifT hM hb1
  refine Ct hb1 ?_
  refine Sq ?_
  have hS0 := hS
  refine r_draw (n := 14) rfl (by kernel_rfl) ?_
  refine Olg (.agg (Wheel.cells a0)) ty_agg24 ?_
  refine Of ((Stand.cells a1)) ty_fo57_0 ?_
  refine Olp (.i a1.Place) ty_agg3 ty_sc3 ?_
  refine Of ((Wheel.cells a0)) ty_fo24_2 ?_
  refine Olp (.sl .no 1 (a0.Coins.map cI)) ty_agg22 ty_sc22 ?_
  refine Om (.i a2) ?_
  obtain ⟨x2, hx2, hM⟩ := bindE hM
  refine o_index (xs := a0.Coins) (f := cI) (z := a2) (u := x2) (by decide) rfl rfl ty_es22 hx2 ?_
  refine Olp (.i x2) ty_agg3 ty_sc3 ?_
  obtain ⟨r3, hr3, hM⟩ := bindE hM
  refine o_call (bs := [.agg (Wheel.cells a0), .i a1.Place, .i x2]) (by decide) rfl rfl ((W_ref01_Put hr3).le (.k (.k (.k .nil)))) ?_
  refine Om (.tup [.i r3.1, .i r3.2]) ?_
  refine Ox (.i r3.1) ?_
  refine Ox (.i r3.2) ?_
  refine Oa (.i r3.1) ?_
  refine Oa (.i r3.2) ?_
  refine Ni ?_
  refine Ws ?_
  refine Sq ?_
  refine Rg 8 ?_
  refine Om (.i r3.1) ?_
  refine Of ((Stand.cells a1)) ty_fo57_1 ?_
  refine Olp (.i a1.Credit) ty_agg3 ty_sc3 ?_
  refine Om (.i r3.2) ?_
  refine Oi (.i (w64 (a1.Credit + r3.2))) ?_
  refine o_build (cs := [.i r3.1, .i (w64 (a1.Credit + r3.2))]) (by decide) ty_zero57 ty_pl57 rfl ?_
  refine o_store (v := .agg [.i r3.1, .i (w64 (a1.Credit + r3.2))]) (ns := [.i r3.1, .i (w64 (a1.Credit + r3.2))]) (L' := [(g + 2, .cells [.i r3.1, .i (w64 (a1.Credit + r3.2))])]) 0 hS rfl rfl .no rfl rfl ty_var57 nlb rfl fun H hS => ?_
  refine Oa (.b false) ?_
  refine Ni ?_
  refine Ws ?_
  refine r_ret ?_
  refine r_then_ret ?_
  refine w_end (x := .tup [.agg [.i r3.1, .i (w64 (a1.Credit + r3.2))], .b false]) (f := fun r => .tup [.agg [.i r.1.Place, .i r.1.Credit], .b r.2]) (.inr rfl) ?_ (.refl _) (Option.some.inj hM) hS
  exact (res_two (res_cell (x := .agg [.i r3.1, .i (w64 (a1.Credit + r3.2))]) 0 hS rfl rfl (pg ty_agg57)) (res_tmp (x := .b false) rfl))
 ·replace hM := ifF hM hb1
  refine Cf hb1 ?_
  refine r_skip ?_
  refine Ws ?_
  refine Sq ?_
  refine Sq ?_
  refine Rg 3 ?_
  refine Of ((Stand.cells a1)) ty_fo57_1 ?_
  refine Olp (.i a1.Credit) ty_agg3 ty_sc3 ?_
  refine Oi (.b (a1.Credit == 0)) ?_
  refine Ni ?_
  refine Ws ?_
  rcases bft (a1.Credit == 0) with hb4 | hb4
  ·replace hM := ifT hM hb4
   refine Ct hb4 ?_
   refine Sq ?_
   refine Rg 3 ?_
   refine Olg (.agg (Stand.cells a1)) ty_agg57 ?_
   refine o_store (v := .agg (Stand.cells a1)) (ns := (Stand.cells a1)) (L' := [(g + 2, .cells (Stand.cells a1))]) 0 hS rfl rfl .no rfl rfl ty_var57 nlb rfl fun H hS => ?_
   refine Oa (.b false) ?_
   refine Ni ?_
   refine Ws ?_
   refine r_ret ?_
   refine r_then_ret ?_
   refine w_end (x := .tup [.agg (Stand.cells a1), .b false]) (f := fun r => .tup [.agg [.i r.1.Place, .i r.1.Credit], .b r.2]) (.inr rfl) ?_ (.refl _) (Option.some.inj hM) hS
   exact (res_two (res_cell (x := .agg (Stand.cells a1)) 0 hS rfl rfl (pg ty_agg57)) (res_tmp (x := .b false) rfl))
  ·replace hM := ifF hM hb4
   refine Cf hb4 ?_
   refine r_skip ?_
   refine Ws ?_
   refine Sq ?_
   refine Rg 6 ?_
   refine Of ((Stand.cells a1)) ty_fo57_1 ?_
   refine Olp (.i a1.Credit) ty_agg3 ty_sc3 ?_
   refine Oi (.i (w64 (a1.Credit - 1))) ?_
   refine o_build (cs := [.i 0, .i (w64 (a1.Credit - 1))]) (by decide) ty_zero57 ty_pl57 rfl ?_
   refine o_store (v := .agg [.i 0, .i (w64 (a1.Credit - 1))]) (ns := [.i 0, .i (w64 (a1.Credit - 1))]) (L' := [(g + 2, .cells [.i 0, .i (w64 (a1.Credit - 1))])]) 0 hS rfl rfl .no rfl rfl ty_var57 nlb rfl fun H hS => ?_
   refine Oa (.b true) ?_
   refine Ni ?_
   refine w_next [(6, .ptr (g + 2) 0), (7, .b true)] (.k (.k .nil)) ?_
   refine r_ret ?_
   refine w_end (x := .tup [.agg [.i 0, .i (w64 (a1.Credit - 1))], .b true]) (f := fun r => .tup [.agg [.i r.1.Place, .i r.1.Credit], .b r.2]) (.inr rfl) ?_ (.refl _) (Option.some.inj hM) hS
   exact (res_two (res_cell (x := .agg [.i 0, .i (w64 (a1.Credit - 1))]) 0 hS rfl rfl (pg ty_agg57)) (res_tmp (x := .b true) rfl))
theorem W_ref01_Bag {n : Nat} {a0 : Wheel} {a1 : List Int} {r : (List Int)} (hM : ref01_Bag n a0 a1 = some r) : PureSat Try.prog 44 [.agg (Wheel.cells a0), .sl .no 1 (a1.map cI)] (.sl .no 1 (r.map cI)) := by
 refine pure_of_wp mixed Try.func44 rfl (by decide) Try.ntmps44 (by simp) ?pure fun H0 g hf => ?_
 case pure => exact .sl _ _ (pures_map (fun x => (pl_cons (.v _) pl_nil)))
 rw [frame0_of]
 change wpA _ _ _ _ (Fr.of [(0, .agg (Wheel.cells a0)), (1, .sl .no 1 (a1.map cI))]) H0 g
 have hS := St.start hf
 refine Sq ?_
 refine Rg 2 ?_
 refine o_box (v := .agg (Wheel.cells a0)) (cs := (Wheel.cells a0)) hS (by decide) rfl rfl (by omega) fun H hS => ?_
 refine Oa (.sl .nil 0 []) ?_
 refine Ni ?_
 refine w_iceE (L' := []) 0 2 hS rfl rfl rfl fun H hS => ?_
 refine Ws ?_
 refine Sq ?_
 refine Rg 1 ?_
 refine Oa (.sl .nil 0 []) ?_
 refine Ni ?_
 refine w_own [(1, .sl .no 1 (a1.map cI)), (2, .ep (Wheel.cells a0)), (5, .sl (.id (g + 2 + 1)) 1 (([] : List Int).map cI))] 5 1 3 hS (by omega) (by decide) rfl (.k (.k (.k .nil))) fun H hS => ?_
 refine w_join (J := (List Int)) (fun j => [(5, .sl (.id (g + 2 + 1)) 1 (j.map cI))]) (fun j H' g' => St (· < g) H0 [(g + 2 + 1, .row 3 j.length)] H' g' ∧ ref01_Bag_j1 j = some r) ?_ ?_
 ·rintro v1 H g1 ⟨hS, hM⟩
  change wpA _ _ _ _ (Fr.of [(5, .sl (.id (g + 2 + 1)) 1 (v1.map cI))]) _ _
  replace hS : St (· < g) H0 [(g + 2 + 1, .row 3 v1.length)] H g1 := hS
  replace hM : ref01_Bag_j1 v1 = some r := hM
  refine Sq ?_
  refine Rg 2 ?_
  refine Om (.sl (.id (g + 2 + 1)) 1 (v1.map cI)) ?_
  refine Oa (.sl (.id (g + 2 + 1)) 1 (v1.map cI)) ?_
  refine Ni ?_
  refine Ws ?_
  refine r_ret ?_
  refine w_end (x := .sl (.id (g + 2 + 1)) 1 (v1.map cI)) (f := fun r => .sl .no 1 (r.map cI)) (.inr rfl) ?_ (.sl _ _ _) (Option.some.inj hM) hS
  exact (res_one (res_tmp (x := .sl (.id (g + 2 + 1)) 1 (v1.map cI)) rfl))
 ·refine Sq ?_
  refine Rg 1 ?_
  refine Oa (.i 0) ?_
  refine Ni ?_
  refine Ws ?_
  refine r_block ?_
  refine w_loop (V := (List Int) × Int) (fun v => [(1, .sl .no 1 (a1.map cI)), (2, .ep (Wheel.cells a0)), (5, .sl (.id (g + 2 + 1)) 1 (v.1.map cI)), (6, .i v.2)]) (fun v m2 H' g' => St (· < g) H0 [(g + 2 + 1, .row 3 v.1.length)] H' g' ∧ ref01_Bag_l1 n a0 a1 m2 v.1 v.2 = some r) (n := n) (([] : List Int), 0) (.k (.k (.k (.k .nil)))) ⟨(hS.keep [true] rfl).up (by omega), hM⟩ ?_
  rintro ⟨v2, v3⟩ m2 H g2 ⟨hS, hM⟩
  obtain _ | m2 := m2
  ·exact nomatch (show none = some _ from hM)
  change wpA _ _ _ _ (Fr.of [(1, .sl .no 1 (a1.map cI)), (2, .ep (Wheel.cells a0)), (5, .sl (.id (g + 2 + 1)) 1 (v2.map cI)), (6, .i v3)]) _ _
  replace hS : St (· < g) H0 [(g + 2 + 1, .row 3 v2.length)] H g2 := hS
  replace hM : ref01_Bag_l1_b n a0 a1 (ref01_Bag_l1 n a0 a1 m2) v2 v3 = some r := hM
  refine Sq ?_
  refine Sq ?_
  refine Rg 5 ?_
  refine Om (.i v3) ?_
  refine Of ((Wheel.cells a0)) ty_fo24_2 ?_
  refine Olp (.sl .no 1 (a0.Coins.map cI)) ty_agg22 ty_sc22 ?_
  refine o_len (n := a0.Coins.length) (by decide) rfl (List.length_map _) ty_isl22 ?_
  refine Oi (.b (decide (v3 < (a0.Coins.length : Int)))) ?_
  refine Ni ?_
  refine Ws ?_
  rcases bft (decide (v3 < (a0.Coins.length : Int))) with hb4 | hb4
  ·replace hM := ifT hM hb4
   refine Ct hb4 ?_
   refine r_skip ?_
   refine Ws ?_
   refine w_join (J := (List Int)) (fun j => [(1, .sl .no 1 (a1.map cI)), (2, .ep (Wheel.cells a0)), (5, .sl (.id (g + 2 + 1)) 1 (j.map cI)), (6, .i v3)]) (fun j H' g' => St (· < g) H0 [(g + 2 + 1, .row 3 j.length)] H' g' ∧ ref01_Bag_j2 (ref01_Bag_l1 n a0 a1 m2) v3 j = some r) ?_ ?_
   ·rintro v5 H g3 ⟨hS, hM⟩
    change wpA _ _ _ _ (Fr.of [(1, .sl .no 1 (a1.map cI)), (2, .ep (Wheel.cells a0)), (5, .sl (.id (g + 2 + 1)) 1 (v5.map cI)), (6, .i v3)]) _ _
    replace hS : St (· < g) H0 [(g + 2 + 1, .row 3 v5.length)] H g3 := hS
    replace hM : ref01_Bag_j2 (ref01_Bag_l1 n a0 a1 m2) v3 v5 = some r := hM
    refine Rg 3 ?_
    refine Om (.i v3) ?_
    refine Oi (.i (w64 (v3 + 1))) ?_
    refine Oa (.i (w64 (v3 + 1))) ?_
    refine Ni ?_
    exact w_round (v5, w64 (v3 + 1)) (Nat.lt_succ_self _) (.k (.k (.k (.k .nil)))) ⟨(hS.keep [true] rfl).up (by omega), hM⟩
   ·refine r_block ?_
    refine Sq ?_
    refine Rg 1 ?_
    refine Oa (.i 0) ?_
    refine Ni ?_
    refine Ws ?_
    refine w_join (J := Int) (fun j => [(1, .sl .no 1 (a1.map cI)), (2, .ep (Wheel.cells a0)), (5, .sl (.id (g + 2 + 1)) 1 (v2.map cI)), (6, .i v3), (7, .i j)]) (fun j H' g' => St (· < g) H0 [(g + 2 + 1, .row 3 v2.length)] H' g' ∧ ref01_Bag_j3 (ref01_Bag_l1 n a0 a1 m2) v2 v3 j = some r) ?_ ?_
    ·rintro v6 H g4 ⟨hS, hM⟩
     change wpA _ _ _ _ (Fr.of [(1, .sl .no 1 (a1.map cI)), (2, .ep (Wheel.cells a0)), (5, .sl (.id (g + 2 + 1)) 1 (v2.map cI)), (6, .i v3), (7, .i v6)]) _ _
     replace hS : St (· < g) H0 [(g + 2 + 1, .row 3 v2.length)] H g4 := hS
     replace hM : ref01_Bag_j3 (ref01_Bag_l1 n a0 a1 m2) v2 v3 v6 = some r := hM
     refine Rg 5 ?_
     refine Om (.sl (.id (g + 2 + 1)) 1 (v2.map cI)) ?_
     refine Om (.i v6) ?_
     refine o_buildSlice (es := [[.i v6]]) hS (by decide) ty_es22 ty_el22 rfl ty_ef22 rfl (by decide) (by omega) fun H hS => ?_
     obtain ⟨l7, hl7, hM⟩ := bindE hM
     refine o_append (xs := v2) (ys := ([v6] : List Int)) (zs := l7) (f := cI) (L' := [(g4 + 2, .row 3 1), (g + 2 + 1, .row 3 l7.length)]) 1 hS (by decide) rfl rfl rfl rfl .no ty_es22 ty_el22 ty_ef22 hl7 rfl fun H hS => ?_
     refine Oa (.sl (.id (g + 2 + 1)) 1 (l7.map cI)) ?_
     refine Ni ?_
     refine r_blk_normal ?_
     exact w_goto l7 (.k (.k (.k (.k .nil)))) ⟨(hS.keep [false, true] rfl).up (by omega), hM⟩
    ·refine Sq ?_
     refine Rg 1 ?_
     refine Oa (.i 0) ?_
     refine Ni ?_
     refine Ws ?_
     refine r_block ?_
     refine w_loop (V := Int × Int) (fun v => [(1, .sl .no 1 (a1.map cI)), (2, .ep (Wheel.cells a0)), (5, .sl (.id (g + 2 + 1)) 1 (v2.map cI)), (6, .i v3), (7, .i v.1), (8, .i v.2)]) (fun v m5 H' g' => St (· < g) H0 [(g + 2 + 1, .row 3 v2.length)] H' g' ∧ ref01_Bag_l2 (ref01_Bag_l1 n a0 a1 m2) a1 v2 v3 m5 v.1 v.2 = some r) (n := n) (0, 0) (.k (.k (.k (.k (.k (.k .nil)))))) ⟨(hS.keep [true] rfl).up (by omega), hM⟩ ?_
     rintro ⟨v8, v9⟩ m5 H g5 ⟨hS, hM⟩
     obtain _ | m5 := m5
     ·exact nomatch (show none = some _ from hM)
     change wpA _ _ _ _ (Fr.of [(1, .sl .no 1 (a1.map cI)), (2, .ep (Wheel.cells a0)), (5, .sl (.id (g + 2 + 1)) 1 (v2.map cI)), (6, .i v3), (7, .i v8), (8, .i v9)]) _ _
     replace hS : St (· < g) H0 [(g + 2 + 1, .row 3 v2.length)] H g5 := hS
     replace hM : ref01_Bag_l2_b (ref01_Bag_l1 n a0 a1 m2) a1 v2 v3 (ref01_Bag_l2 (ref01_Bag_l1 n a0 a1 m2) a1 v2 v3 m5) v8 v9 = some r := hM
     refine Sq ?_
     refine Sq ?_
     refine Rg 4 ?_
     refine Om (.i v9) ?_
     refine Om (.sl .no 1 (a1.map cI)) ?_
     refine o_len (n := a1.length) (by decide) rfl (List.length_map _) ty_isl22 ?_
     refine Oi (.b (decide (v9 < (a1.length : Int)))) ?_
     refine Ni ?_
     refine Ws ?_
     rcases bft (decide (v9 < (a1.length : Int))) with hb10 | hb10
     ·replace hM := ifT hM hb10
      refine Ct hb10 ?_
      refine r_skip ?_
      refine Ws ?_
      refine w_join (J := Int) (fun j => [(1, .sl .no 1 (a1.map cI)), (2, .ep (Wheel.cells a0)), (5, .sl (.id (g + 2 + 1)) 1 (v2.map cI)), (6, .i v3), (7, .i j), (8, .i v9)]) (fun j H' g' => St (· < g) H0 [(g + 2 + 1, .row 3 v2.length)] H' g' ∧ ref01_Bag_j4 (ref01_Bag_l2 (ref01_Bag_l1 n a0 a1 m2) a1 v2 v3 m5) v9 j = some r) ?_ ?_
      ·rintro v11 H g6 ⟨hS, hM⟩
       change wpA _ _ _ _ (Fr.of [(1, .sl .no 1 (a1.map cI)), (2, .ep (Wheel.cells a0)), (5, .sl (.id (g + 2 + 1)) 1 (v2.map cI)), (6, .i v3), (7, .i v11), (8, .i v9)]) _ _
       replace hS : St (· < g) H0 [(g + 2 + 1, .row 3 v2.length)] H g6 := hS
       replace hM : ref01_Bag_j4 (ref01_Bag_l2 (ref01_Bag_l1 n a0 a1 m2) a1 v2 v3 m5) v9 v11 = some r := hM
       refine Rg 3 ?_
       refine Om (.i v9) ?_
       refine Oi (.i (w64 (v9 + 1))) ?_
       refine Oa (.i (w64 (v9 + 1))) ?_
       refine Ni ?_
       exact w_round (v11, w64 (v9 + 1)) (Nat.lt_succ_self _) (.k (.k (.k (.k (.k (.k .nil)))))) ⟨(hS.keep [true] rfl).up (by omega), hM⟩
      ·refine r_block ?_
       refine Sq ?_
       refine Rg 6 ?_
       refine Om (.sl .no 1 (a1.map cI)) ?_
       refine Om (.i v9) ?_
       obtain ⟨x12, hx12, hM⟩ := bindE hM
       refine o_index (xs := a1) (f := cI) (z := v9) (u := x12) (by decide) rfl rfl ty_es22 hx12 ?_
       refine Olp (.i x12) ty_agg3 ty_sc3 ?_
       refine Om (.i v3) ?_
       refine Oi (.b (x12 == v3)) ?_
       refine Ni ?_
       refine Ws ?_
       rcases bft (x12 == v3) with hb13 | hb13
       ·replace hM := ifT hM hb13
        refine Ct hb13 ?_
        refine Rg 3 ?_
        refine Om (.i v8) ?_
        refine Oi (.i (w64 (v8 + 1))) ?_
        refine Oa (.i (w64 (v8 + 1))) ?_
        refine Ni ?_
        refine r_blk_normal ?_
        exact w_goto (w64 (v8 + 1)) (.k (.k (.k (.k (.k (.k .nil)))))) ⟨(hS.keep [true] rfl).up (by omega), hM⟩
       ·replace hM := ifF hM hb13
        refine Cf hb13 ?_
        refine r_skip ?_
        refine r_blk_normal ?_
        exact w_goto v8 (.k (.k (.k (.k (.k (.k .nil)))))) ⟨(hS.keep [true] rfl).up (by omega), hM⟩
     ·replace hM := ifF hM hb10
      refine Cf hb10 ?_
      refine r_exit ?_
      refine r_then_exit ?_
      refine w_round_exit ?_
      refine r_blk_exit ?_
      exact w_goto v8 (.k (.k (.k (.k (.k .nil))))) ⟨(hS.keep [true] rfl).up (by omega), hM⟩
  ·replace hM := ifF hM hb4
   refine Cf hb4 ?_
   refine r_exit ?_
   refine r_then_exit ?_
   refine w_round_exit ?_
   refine r_blk_exit ?_
   exact w_goto v2 (.k .nil) ⟨(hS.keep [true] rfl).up (by omega), hM⟩
theorem W_coins_Order_c1 {p1 w1 p2 p3 p4 : Nat} (hnd : [p1, w1, p2, p3, p4].Nodup) {n : Nat} {a0 : List Int} {a1 : Spot_} {a2 : Int} {a3 : Wheel_ × Bool} {a4 : Int} {st : (List Int) × Spot_ × Bool × (List (Spot_ × Int))} {r : Bool × ((List Int) × Spot_ × Bool × (List (Spot_ × Int)))} (hM : coins_Order_c1 n a0 a1 a2 a3 a4 st = some r) : HSat Try.prog 86 [.sl .no 1 (a0.map cI), .agg (Spot_.cells a1), .i a2, .ep [.ep (srchC a3.1 a3.2 p4)], .ep [.i a4], .ptr p1 0, .ptr p2 0, .ptr p3 0] [(p1, .cells [.sl (.id w1) 1 (st.1.map cI)]), (w1, .row 3 st.1.length), (p2, .cells (Spot_.cells st.2.1)), (p3, .cells [.b st.2.2.1]), (p4, .obj none (mapIs (mpv kvSpot_ st.2.2.2)))] (.b r.1) [(p1, .cells [.sl (.id w1) 1 (r.2.1.map cI)]), (w1, .row 3 r.2.1.length), (p2, .cells [.i r.2.2.1.left.c0, .i r.2.2.1.left.c1, .i r.2.2.1.left.c2, .i r.2.2.1.left.c3, .i r.2.2.1.place, .i r.2.2.1.credit]), (p3, .cells [.b r.2.2.2.1]), (p4, .obj none (mapIs (mpv kvSpot_ r.2.2.2.2)))] := by
 refine hsat_of_wp mixed Try.func86 rfl (by decide) Try.ntmps86 (by simp) (kl_cells (kl_row (kl_cells (kl_cells (kl_obj kl_nil))))) hnd ?pure ?cells fun H0 g hf_ hp => ?_
 case pure => exact fun H _ => (show Go.AM.Pure _ from .v _).inH
 case cells => exact (inb_st (ic_cells (ci_cons (.inl (.inr ⟨_, _, _, _, _, rfl, (List.mem_of_getElem? (i := 1) rfl), pures_map (fun x => (pl_cons (.v _) pl_nil))⟩)) ci_nil) (ic_row (ic_cells (ci_cons (.inl (.inl (.v _))) (ci_cons (.inl (.inl (.v _))) (ci_cons (.inl (.inl (.v _))) (ci_cons (.inl (.inl (.v _))) (ci_cons (.inl (.inl (.v _))) (ci_cons (.inl (.inl (.v _))) ci_nil)))))) (ic_cells (ci_cons (.inl (.inl (.v _))) ci_nil) (ic_obj ic_nil))))) inb_nil)
 rw [frame0_of]
 change wpA _ _ _ _ (Fr.of [(0, .sl .no 1 (a0.map cI)), (1, .agg (Spot_.cells a1)), (2, .i a2), (3, .ep [.ep (srchC a3.1 a3.2 p4)]), (4, .ep [.i a4]), (5, .ptr p1 0), (6, .ptr p2 0), (7, .ptr p3 0)]) H0 g
 have hS := St.startH (L := [(p1, .cells [.sl (.id w1) 1 (st.1.map cI)]), (w1, .row 3 st.1.length), (p2, .cells (Spot_.cells st.2.1)), (p3, .cells [.b st.2.2.1]), (p4, .obj none (mapIs (mpv kvSpot_ st.2.2.2)))]) hf_ hnd hp
 replace hS : St (fun i => i < g ∧ i ∉ ids [(p1, .cells [.sl (.id w1) 1 (st.1.map cI)]), (w1, .row 3 st.1.length), (p2, .cells (Spot_.cells st.2.1)), (p3, .cells [.b st.2.2.1]), (p4, .obj none (mapIs (mpv kvSpot_ st.2.2.2)))]) H0 [(p1, .cells [.sl (.id w1) 1 (st.1.map cI)]), (w1, .row 3 st.1.length), (p2, .cells (Spot_.cells st.2.1)), (p3, .cells [.b st.2.2.1]), (p4, .obj none (mapIs (mpv kvSpot_ st.2.2.2)))] H0 g := hS
 refine Sq ?_
 refine Rg 2 ?_
 refine o_box (v := .agg (Spot_.cells a1)) (cs := (Spot_.cells a1)) hS (by decide) rfl rfl (by omega) fun H hS => ?_
 refine Oa (.b false) ?_
 refine Ni ?_
 refine w_iceE (L' := [(p1, .cells [.sl (.id w1) 1 (st.1.map cI)]), (w1, .row 3 st.1.length), (p2, .cells (Spot_.cells st.2.1)), (p3, .cells [.b st.2.2.1]), (p4, .obj none (mapIs (mpv kvSpot_ st.2.2.2)))]) 0 9 hS rfl rfl rfl fun H hS => ?_
 refine Ws ?_
 refine Sq ?_
 refine Sq ?_
 have hS0 := hS
 refine r_draw (n := 7) rfl (by kernel_rfl) ?_
 refine Om (.i a2) ?_
 refine Olp (.ep (srchC a3.1 a3.2 p4)) ty_agg86 ty_sc86 ?_
 refine Olg (.agg (Spot_.cells a1)) ty_agg90 ?_
 obtain ⟨r1, hr1, hM⟩ := bindE hM
 have hndr1 := hS.nd_at (ns := [4]) (M := [(p4, .obj none (mapIs (mpv kvSpot_ st.2.2.2)))]) (M' := [(p4, .obj none (mapIs (mpv kvSpot_ r1.2)))]) (.cons rfl .nil) (by decide)
 refine o_hsat (bs := [.ep (srchC a3.1 a3.2 p4), .agg (Spot_.cells a1)]) (M := [(p4, .obj none (mapIs (mpv kvSpot_ st.2.2.2)))]) (M' := [(p4, .obj none (mapIs (mpv kvSpot_ r1.2)))]) (L' := [(p1, .cells [.sl (.id w1) 1 (st.1.map cI)]), (w1, .row 3 st.1.length), (p2, .cells (Spot_.cells st.2.1)), (p3, .cells [.b st.2.2.1]), (p4, .obj none (mapIs (mpv kvSpot_ r1.2)))]) [4] (.inr (by kernel_rfl)) hS (by decide) rfl rfl ((W_coins_search_buys (p1 := p4) hndr1 hr1).le (.k (.k .nil))) (.cons rfl .nil) rfl (by omega) fun H hS => ?_
 refine Oi (.i (w64 (a2 + r1.1))) ?_
 refine Olp (.i a4) ty_agg3 ty_sc3 ?_
 refine Oi (.b ((w64 (a2 + r1.1)) != a4)) ?_
 refine Ni ?_
 refine Ws ?_
 rcases bft ((w64 (a2 + r1.1)) != a4) with hb2 | hb2
 ·replace hM := ifT hM hb2
  refine Ct hb2 ?_
  refine Sq ?_
  refine Rg 1 ?_
  refine Oa (.b true) ?_
  refine Ni ?_
  refine Ws ?_
  refine r_ret ?_
  refine r_then_ret ?_
  refine w_endS (x := .b true) (f := fun r => .b r.1) (fd := fun r => [(p1, .cells [.sl (.id w1) 1 (r.2.1.map cI)]), (w1, .row 3 r.2.1.length), (p2, .cells [.i r.2.2.1.left.c0, .i r.2.2.1.left.c1, .i r.2.2.1.left.c2, .i r.2.2.1.left.c3, .i r.2.2.1.place, .i r.2.2.1.credit]), (p3, .cells [.b r.2.2.2.1]), (p4, .obj none (mapIs (mpv kvSpot_ r.2.2.2.2)))]) (.inr rfl) ?_ (.refl _) (Option.some.inj hM) hS 0 rfl
  exact (res_one (res_tmp (x := .b true) rfl))
 ·replace hM := ifF hM hb2
  refine Cf hb2 ?_
  refine r_skip ?_
  refine Ws ?_
  refine Sq ?_
  have hS0 := hS
  refine r_drawX (n := 7) [(5, 9)] rfl (by kernel_rfl) (by kernel_rfl) ?_
  refine o_load (v := .sl (.id w1) 1 (st.1.map cI)) 0 hS (by decide) rfl rfl (.st hS0 0 rfl (by omega)) (po ty_agg22 ty_sc22) ?_
  refine Om (.sl .no 1 (a0.map cI)) ?_
  obtain ⟨l3, hl3, hM⟩ := bindE hM
  refine o_append (xs := st.1) (ys := a0) (zs := l3) (f := cI) (L' := [(p1, .cells [.sl (.id w1) 1 (st.1.map cI)]), (w1, .row 3 l3.length), (p2, .cells (Spot_.cells st.2.1)), (p3, .cells [.b st.2.2.1]), (p4, .obj none (mapIs (mpv kvSpot_ r1.2)))]) 1 hS (by decide) rfl rfl rfl rfl (.st hS0 1 rfl (by omega)) ty_es22 ty_el22 ty_ef22 hl3 rfl fun H hS => ?_
  refine Olg (.agg (Spot_.cells a1)) ty_agg90 ?_
  refine o_store (v := .sl (.id w1) 1 (l3.map cI)) (ns := [.sl (.id w1) 1 (l3.map cI)]) (L' := [(p1, .cells [.sl (.id w1) 1 (l3.map cI)]), (w1, .row 3 l3.length), (p2, .cells (Spot_.cells st.2.1)), (p3, .cells [.b st.2.2.1]), (p4, .obj none (mapIs (mpv kvSpot_ r1.2)))]) 0 hS rfl rfl (.st hS0 0 rfl (by omega)) rfl rfl ty_var22 nlb rfl fun H hS => ?_
  refine o_store (v := .agg (Spot_.cells a1)) (ns := (Spot_.cells a1)) (L' := [(p1, .cells [.sl (.id w1) 1 (l3.map cI)]), (w1, .row 3 l3.length), (p2, .cells (Spot_.cells a1)), (p3, .cells [.b st.2.2.1]), (p4, .obj none (mapIs (mpv kvSpot_ r1.2)))]) 2 hS rfl rfl (.st hS0 2 rfl (by omega)) rfl rfl ty_var90 nlb rfl fun H hS => ?_
  refine o_store (v := .b true) (ns := [.b true]) (L' := [(p1, .cells [.sl (.id w1) 1 (l3.map cI)]), (w1, .row 3 l3.length), (p2, .cells (Spot_.cells a1)), (p3, .cells [.b true]), (p4, .obj none (mapIs (mpv kvSpot_ r1.2)))]) 3 hS rfl rfl (.st hS0 3 rfl (by omega)) rfl rfl ty_var4 nlb rfl fun H hS => ?_
  refine Ni ?_
  refine ⟨(sep_cons trivial sep_nil), ?_⟩
  refine Ws ?_
  refine Sq ?_
  refine Rg 1 ?_
  refine Oa (.b false) ?_
  refine Ni ?_
  refine w_next [(11, .b false)] (.k .nil) ?_
  refine r_ret ?_
  refine w_endS (x := .b false) (f := fun r => .b r.1) (fd := fun r => [(p1, .cells [.sl (.id w1) 1 (r.2.1.map cI)]), (w1, .row 3 r.2.1.length), (p2, .cells [.i r.2.2.1.left.c0, .i r.2.2.1.left.c1, .i r.2.2.1.left.c2, .i r.2.2.1.left.c3, .i r.2.2.1.place, .i r.2.2.1.credit]), (p3, .cells [.b r.2.2.2.1]), (p4, .obj none (mapIs (mpv kvSpot_ r.2.2.2.2)))]) (.inr rfl) ?_ (.refl _) (Option.some.inj hM) hS 0 rfl
  exact (res_one (res_tmp (x := .b false) rfl))
theorem W_coins_Order {n : Nat} {a0 : Wheel} {a1 : List Int} {r : (List Int) × Int} (hM : coins_Order n a0 a1 = some r) : PureSat Try.prog 46 [.agg (Wheel.cells a0), .sl .no 1 (a1.map cI)] (.tup [.sl .no 1 (r.1.map cI), .i r.2]) := by
 refine pure_of_wp mixed Try.func46 rfl (by decide) Try.ntmps46 (by simp) ?pure fun H0 g hf => ?_
 case pure => exact .tup _ (pl_cons (.sl _ _ (pures_map (fun x => (pl_cons (.v _) pl_nil)))) (pl_cons (.v _) pl_nil))
 rw [frame0_of]
 change wpA _ _ _ _ (Fr.of [(0, .agg (Wheel.cells a0)), (1, .sl .no 1 (a1.map cI))]) H0 g
 have hS := St.start hf
 refine Sq ?_
 refine Rg 3 ?_
 refine o_box (v := .agg (Wheel.cells a0)) (cs := (Wheel.cells a0)) hS (by decide) rfl rfl (by omega) fun H hS => ?_
 refine Oa (.sl .nil 0 []) ?_
 refine Oa (.i 0) ?_
 refine Ni ?_
 refine w_iceE (L' := []) 0 2 hS rfl rfl rfl fun H hS => ?_
 refine Ws ?_
 refine Sq ?_
 refine Rg 12 ?_
 refine Olg (.agg (Wheel.cells a0)) ty_agg24 ?_
 refine Om (.sl .no 1 (a1.map cI)) ?_
 obtain ⟨r1, hr1, hM⟩ := bindE hM
 rcases bft r1.1.isSome with hb2 | hb2
 ·replace hM := ifT hM hb2
  obtain ⟨x3, hx3, hM⟩ := bindE hM
  refine o_newAt (bs := [.agg (Wheel.cells a0), .sl .no 1 (a1.map cI), .fn (.func 65) [] []]) (.inl rfl) hS (by decide) rfl rfl ((W_coins_seek_some (r := r1.2) (by rw [← hx3]; exact hr1)).le (.k (.k (.k .nil)))) (by omega) fun H hS hU => ?_
  refine Om (.tup [.ep (srchC x3 true (g + 3 + 12 + 19)), .agg (Spot_.cells r1.2.1), .i r1.2.2]) ?_
  refine Ox (.ep (srchC x3 true (g + 3 + 12 + 19))) ?_
  refine Ox (.agg (Spot_.cells r1.2.1)) ?_
  refine Ox (.i r1.2.2) ?_
  refine o_allocU hS hU (by decide) ty_zero86 (by omega) (by omega) (by omega) fun H hS hU => ?_
  refine o_allocU hS hU (by decide) ty_zero90 (by omega) (by omega) (by omega) fun H hS hU => ?_
  refine o_store (v := .ep (srchC x3 true (g + 3 + 12 + 19))) (ns := [.ep (srchC x3 true (g + 3 + 12 + 19))]) (L' := [(g + 3 + 8, .cells [.i 0, .i 0, .i 0, .i 0, .i 0, .i 0]), (g + 3 + 7, .cells [.ep (srchC x3 true (g + 3 + 12 + 19))]), (g + 3 + 12 + 19, .obj none (mapIs (mpv kvSpot_ ([] : List (Spot_ × Int)))))]) 1 hS rfl rfl .no rfl rfl ty_var86 nlb rfl fun H hS => ?_
  refine o_store (v := .agg (Spot_.cells r1.2.1)) (ns := (Spot_.cells r1.2.1)) (L' := [(g + 3 + 8, .cells (Spot_.cells r1.2.1)), (g + 3 + 7, .cells [.ep (srchC x3 true (g + 3 + 12 + 19))]), (g + 3 + 12 + 19, .obj none (mapIs (mpv kvSpot_ ([] : List (Spot_ × Int)))))]) 0 hS rfl rfl .no rfl rfl ty_var90 nlb rfl fun H hS => ?_
  refine Oa (.i r1.2.2) ?_
  refine Ni ?_
  refine w_iceE (L' := [(g + 3 + 8, .cells (Spot_.cells r1.2.1)), (g + 3 + 12 + 19, .obj none (mapIs (mpv kvSpot_ ([] : List (Spot_ × Int)))))]) 1 6 hS rfl rfl rfl fun H hS => ?_
  refine Ws ?_
  refine Sq ?_
  refine Sq ?_
  refine Rg 2 ?_
  refine Om (.i r1.2.2) ?_
  refine Oi (.b (r1.2.2 != 0)) ?_
  refine Ni ?_
  refine Ws ?_
  rcases bft (r1.2.2 != 0) with hb4 | hb4
  ·replace hM := ifT hM hb4
   refine Ct hb4 ?_
   refine Sq ?_
   refine Rg 3 ?_
   refine Om (.i r1.2.2) ?_
   refine Oa (.sl .nil 0 []) ?_
   refine Oa (.i r1.2.2) ?_
   refine Ni ?_
   replace hS := hS.keep (L' := []) [false, false] rfl
   refine Ws ?_
   refine r_ret ?_
   refine r_then_ret ?_
   refine w_end (x := .tup [.sl .nil 0 [], .i r1.2.2]) (f := fun r => .tup [.sl .no 1 (r.1.map cI), .i r.2]) (.inr rfl) ?_ (.tupL (.cons (.sl0 .nil 1 0) (.k .nil))) (Option.some.inj hM) hS
   exact (res_two (res_tmp (x := .sl .nil 0 []) rfl) (res_tmp (x := .i r1.2.2) rfl))
  ·replace hM := ifF hM hb4
   refine Cf hb4 ?_
   refine r_skip ?_
   refine Ws ?_
   refine Sq ?_
   refine Rg 1 ?_
   refine o_alloc hS (by decide) ty_zero22 (by omega) fun H hS => ?_
   refine Ni ?_
   refine w_ownC (cs' := [.sl (.id (g + 3 + 12 + 19 + 1 + 2 + 1)) 1 (([] : List Int).map cI)]) (L' := [(g + 3 + 12 + 19 + 1 + 2 + 0, .cells [.sl (.id (g + 3 + 12 + 19 + 1 + 2 + 1)) 1 (([] : List Int).map cI)]), (g + 3 + 8, .cells (Spot_.cells r1.2.1)), (g + 3 + 12 + 19, .obj none (mapIs (mpv kvSpot_ ([] : List (Spot_ × Int)))))]) 0 0 1 3 hS (by omega) (by decide) rfl rfl rfl rfl fun H hS => ?_
   refine Ws ?_
   refine w_join (J := Nat × (List Int)) (fun j => [(9, .ptr (g + 3 + 12 + 19 + 1 + 2 + 0) 0), (10, .ptr j.1 0)]) (fun j H' g' => St (· < g) H0 [(g + 3 + 12 + 19 + 1 + 2 + 1, .row 3 j.2.length), (g + 3 + 12 + 19 + 1 + 2 + 0, .cells [.sl (.id (g + 3 + 12 + 19 + 1 + 2 + 1)) 1 (j.2.map cI)])] H' g' ∧ coins_Order_j1 j.2 = some r) ?_ ?_
   ·rintro ⟨v5, v6⟩ H g1 ⟨hS, hM⟩
    change wpA _ _ _ _ (Fr.of [(9, .ptr (g + 3 + 12 + 19 + 1 + 2 + 0) 0), (10, .ptr v5 0)]) _ _
    replace hS : St (· < g) H0 [(g + 3 + 12 + 19 + 1 + 2 + 1, .row 3 v6.length), (g + 3 + 12 + 19 + 1 + 2 + 0, .cells [.sl (.id (g + 3 + 12 + 19 + 1 + 2 + 1)) 1 (v6.map cI)])] H g1 := hS
    replace hM : coins_Order_j1 v6 = some r := hM
    refine Sq ?_
    refine Rg 3 ?_
    refine o_load (v := .sl (.id (g + 3 + 12 + 19 + 1 + 2 + 1)) 1 (v6.map cI)) 1 hS (by decide) rfl rfl .no (po ty_agg22 ty_sc22) ?_
    refine Oa (.sl (.id (g + 3 + 12 + 19 + 1 + 2 + 1)) 1 (v6.map cI)) ?_
    refine Oa (.i 0) ?_
    refine Ni ?_
    replace hS := hS.keep (L' := [(g + 3 + 12 + 19 + 1 + 2 + 1, .row 3 v6.length)]) [true, false] rfl
    refine Ws ?_
    refine r_ret ?_
    refine w_end (x := .tup [.sl (.id (g + 3 + 12 + 19 + 1 + 2 + 1)) 1 (v6.map cI), .i 0]) (f := fun r => .tup [.sl .no 1 (r.1.map cI), .i r.2]) (.inr rfl) ?_ (.tupL (.cons (.sl _ _ _) (.k .nil))) (Option.some.inj hM) hS
    exact (res_two (res_tmp (x := .sl (.id (g + 3 + 12 + 19 + 1 + 2 + 1)) 1 (v6.map cI)) rfl) (res_tmp (x := .i 0) rfl))
   ·refine Sq ?_
    refine Rg 2 ?_
    refine o_alloc hS (by decide) ty_zero4 (by omega) fun H hS => ?_
    refine o_store (v := .b true) (ns := [.b true]) (L' := [(g + 3 + 12 + 19 + 1 + 2 + 1 + 1 + 0, .cells [.b true]), (g + 3 + 12 + 19 + 1 + 2 + 1, .row 3 0), (g + 3 + 12 + 19 + 1 + 2 + 0, .cells [.sl (.id (g + 3 + 12 + 19 + 1 + 2 + 1)) 1 (([] : List Int).map cI)]), (g + 3 + 8, .cells (Spot_.cells r1.2.1)), (g + 3 + 12 + 19, .obj none (mapIs (mpv kvSpot_ ([] : List (Spot_ × Int)))))]) 0 hS rfl rfl .no rfl rfl ty_var4 nlb rfl fun H hS => ?_
    refine Ni ?_
    refine Ws ?_
    refine r_block ?_
    refine w_loop (V := Nat × Bool × (List Int) × Int × Int × Int × Int × Int × Int × (List (Spot_ × Int))) (fun v => [(6, .ep [.ep (srchC x3 true (g + 3 + 12 + 19))]), (7, .ptr (g + 3 + 8) 0), (9, .ptr (g + 3 + 12 + 19 + 1 + 2 + 0) 0), (10, .ptr v.1 0)]) (fun v m3 H' g' => St (· < g) H0 [(v.1, .cells [.b v.2.1]), (g + 3 + 12 + 19 + 1 + 2 + 1, .row 3 v.2.2.1.length), (g + 3 + 12 + 19 + 1 + 2 + 0, .cells [.sl (.id (g + 3 + 12 + 19 + 1 + 2 + 1)) 1 (v.2.2.1.map cI)]), (g + 3 + 8, .cells [.i v.2.2.2.1, .i v.2.2.2.2.1, .i v.2.2.2.2.2.1, .i v.2.2.2.2.2.2.1, .i v.2.2.2.2.2.2.2.1, .i v.2.2.2.2.2.2.2.2.1]), (g + 3 + 12 + 19, .obj none (mapIs (mpv kvSpot_ v.2.2.2.2.2.2.2.2.2)))] H' g' ∧ coins_Order_l1 n x3 m3 v.2.1 v.2.2.1 v.2.2.2.1 v.2.2.2.2.1 v.2.2.2.2.2.1 v.2.2.2.2.2.2.1 v.2.2.2.2.2.2.2.1 v.2.2.2.2.2.2.2.2.1 v.2.2.2.2.2.2.2.2.2 = some r) (n := n) (g + 3 + 12 + 19 + 1 + 2 + 1 + 1 + 0, true, ([] : List Int), r1.2.1.left.c0, r1.2.1.left.c1, r1.2.1.left.c2, r1.2.1.left.c3, r1.2.1.place, r1.2.1.credit, ([] : List (Spot_ × Int))) (.k (.k (.k (.k .nil)))) ⟨(hS.keep [true, true, true, true, true] rfl).up (by omega), hM⟩ ?_
    rintro ⟨v8, v9, v10, v11, v12, v13, v14, v15, v16, v17⟩ m3 H g3 ⟨hS, hM⟩
    obtain _ | m3 := m3
    ·exact nomatch (show none = some _ from hM)
    change wpA _ _ _ _ (Fr.of [(6, .ep [.ep (srchC x3 true (g + 3 + 12 + 19))]), (7, .ptr (g + 3 + 8) 0), (9, .ptr (g + 3 + 12 + 19 + 1 + 2 + 0) 0), (10, .ptr v8 0)]) _ _
    replace hS : St (· < g) H0 [(v8, .cells [.b v9]), (g + 3 + 12 + 19 + 1 + 2 + 1, .row 3 v10.length), (g + 3 + 12 + 19 + 1 + 2 + 0, .cells [.sl (.id (g + 3 + 12 + 19 + 1 + 2 + 1)) 1 (v10.map cI)]), (g + 3 + 8, .cells [.i v11, .i v12, .i v13, .i v14, .i v15, .i v16]), (g + 3 + 12 + 19, .obj none (mapIs (mpv kvSpot_ v17)))] H g3 := hS
    replace hM : coins_Order_l1_b n x3 (coins_Order_l1 n x3 m3) v9 v10 v11 v12 v13 v14 v15 v16 v17 = some r := hM
    refine Sq ?_
    refine Sq ?_
    refine Rg 1 ?_
    refine o_load (v := .b v9) 0 hS (by decide) rfl rfl .no (po ty_agg4 ty_sc4) ?_
    refine Ni ?_
    refine Ws ?_
    rcases bft v9 with hb18 | hb18
    ·replace hM := ifT hM hb18
     refine Ct hb18 ?_
     refine r_skip ?_
     refine Ws ?_
     refine Sq ?_
     refine r_block ?_
     refine Sq ?_
     refine Rg 1 ?_
     refine o_store (v := .b false) (ns := [.b false]) (L' := [(v8, .cells [.b false]), (g + 3 + 12 + 19 + 1 + 2 + 1, .row 3 v10.length), (g + 3 + 12 + 19 + 1 + 2 + 0, .cells [.sl (.id (g + 3 + 12 + 19 + 1 + 2 + 1)) 1 (v10.map cI)]), (g + 3 + 8, .cells [.i v11, .i v12, .i v13, .i v14, .i v15, .i v16]), (g + 3 + 12 + 19, .obj none (mapIs (mpv kvSpot_ v17)))]) 0 hS rfl rfl .no rfl rfl ty_var4 nlb rfl fun H hS => ?_
     refine Ni ?_
     refine Ws ?_
     refine Sq ?_
     refine Rg 5 ?_
     refine Olp (.ep (srchC x3 true (g + 3 + 12 + 19))) ty_agg86 ty_sc86 ?_
     refine o_load (v := .agg [.i v11, .i v12, .i v13, .i v14, .i v15, .i v16]) 3 hS (by decide) rfl rfl .no (pg ty_agg90) ?_
     obtain ⟨r19, hr19, hM⟩ := bindE hM
     have hndr19 := hS.nd_at (ns := [4]) (M := [(g + 3 + 12 + 19, .obj none (mapIs (mpv kvSpot_ v17)))]) (M' := [(g + 3 + 12 + 19, .obj none (mapIs (mpv kvSpot_ r19.2)))]) (.cons rfl .nil) (by decide)
     refine o_hsat (bs := [.ep (srchC x3 true (g + 3 + 12 + 19)), .agg [.i v11, .i v12, .i v13, .i v14, .i v15, .i v16]]) (M := [(g + 3 + 12 + 19, .obj none (mapIs (mpv kvSpot_ v17)))]) (M' := [(g + 3 + 12 + 19, .obj none (mapIs (mpv kvSpot_ r19.2)))]) (L' := [(v8, .cells [.b false]), (g + 3 + 12 + 19 + 1 + 2 + 1, .row 3 v10.length), (g + 3 + 12 + 19 + 1 + 2 + 0, .cells [.sl (.id (g + 3 + 12 + 19 + 1 + 2 + 1)) 1 (v10.map cI)]), (g + 3 + 8, .cells [.i v11, .i v12, .i v13, .i v14, .i v15, .i v16]), (g + 3 + 12 + 19, .obj none (mapIs (mpv kvSpot_ r19.2)))]) [4] (.inl rfl) hS (by decide) rfl rfl ((W_coins_search_buys (p1 := g + 3 + 12 + 19) hndr19 hr19).le (.k (.k .nil))) (.cons rfl .nil) rfl (by omega) fun H hS => ?_
     refine o_alloc hS (by decide) ty_zero3 (by omega) fun H hS => ?_
     refine o_store (v := .i r19.1) (ns := [.i r19.1]) (L' := [(g3 + 1 + 1 + 3, .cells [.i r19.1]), (v8, .cells [.b false]), (g + 3 + 12 + 19 + 1 + 2 + 1, .row 3 v10.length), (g + 3 + 12 + 19 + 1 + 2 + 0, .cells [.sl (.id (g + 3 + 12 + 19 + 1 + 2 + 1)) 1 (v10.map cI)]), (g + 3 + 8, .cells [.i v11, .i v12, .i v13, .i v14, .i v15, .i v16]), (g + 3 + 12 + 19, .obj none (mapIs (mpv kvSpot_ r19.2)))]) 0 hS rfl rfl .no rfl rfl ty_var3 nlb rfl fun H hS => ?_
     refine Ni ?_
     refine w_iceE (L' := [(v8, .cells [.b false]), (g + 3 + 12 + 19 + 1 + 2 + 1, .row 3 v10.length), (g + 3 + 12 + 19 + 1 + 2 + 0, .cells [.sl (.id (g + 3 + 12 + 19 + 1 + 2 + 1)) 1 (v10.map cI)]), (g + 3 + 8, .cells [.i v11, .i v12, .i v13, .i v14, .i v15, .i v16]), (g + 3 + 12 + 19, .obj none (mapIs (mpv kvSpot_ r19.2)))]) 0 11 hS rfl rfl rfl fun H hS => ?_
     refine Ws ?_
     refine Rg 4 ?_
     refine Olp (.ep (srchC x3 true (g + 3 + 12 + 19))) ty_agg86 ty_sc86 ?_
     refine o_load (v := .agg [.i v11, .i v12, .i v13, .i v14, .i v15, .i v16]) 3 hS (by decide) rfl rfl .no (pg ty_agg90) ?_
     refine o_makeFunc (first := []) (cap := [.ep [.ep (srchC x3 true (g + 3 + 12 + 19))], .ep [.i r19.1], .ptr (g + 3 + 12 + 19 + 1 + 2 + 0) 0, .ptr (g + 3 + 8) 0, .ptr v8 0]) (by decide) rfl rfl ?_
     obtain ⟨r20, hr20, hM⟩ := bindE hM
     have hndr20 := hS.nd_at (ns := [2, 1, 3, 0, 4]) (M := [(g + 3 + 12 + 19 + 1 + 2 + 0, .cells [.sl (.id (g + 3 + 12 + 19 + 1 + 2 + 1)) 1 (v10.map cI)]), (g + 3 + 12 + 19 + 1 + 2 + 1, .row 3 v10.length), (g + 3 + 8, .cells [.i v11, .i v12, .i v13, .i v14, .i v15, .i v16]), (v8, .cells [.b false]), (g + 3 + 12 + 19, .obj none (mapIs (mpv kvSpot_ r19.2)))]) (M' := [(g + 3 + 12 + 19 + 1 + 2 + 0, .cells [.sl (.id (g + 3 + 12 + 19 + 1 + 2 + 1)) 1 (r20.2.1.map cI)]), (g + 3 + 12 + 19 + 1 + 2 + 1, .row 3 r20.2.1.length), (g + 3 + 8, .cells (Spot_.cells r20.2.2.1)), (v8, .cells [.b r20.2.2.2.1]), (g + 3 + 12 + 19, .obj none (mapIs (mpv kvSpot_ r20.2.2.2.2)))]) (.cons rfl (.cons rfl (.cons rfl (.cons rfl (.cons rfl .nil))))) (by decide)
     have hncr20 := hS.nd_at (ns := [2, 1, 3, 0, 4]) (M := [(g + 3 + 12 + 19 + 1 + 2 + 0, .cells [.sl (.id (g + 3 + 12 + 19 + 1 + 2 + 1)) 1 (v10.map cI)]), (g + 3 + 12 + 19 + 1 + 2 + 1, .row 3 v10.length), (g + 3 + 8, .cells [.i v11, .i v12, .i v13, .i v14, .i v15, .i v16]), (v8, .cells [.b false]), (g + 3 + 12 + 19, .obj none (mapIs (mpv kvSpot_ r19.2)))]) (M' := [(g + 3 + 12 + 19 + 1 + 2 + 0, .cells [.sl (.id (g + 3 + 12 + 19 + 1 + 2 + 1)) 1 (r20.2.1.map cI)]), (g + 3 + 12 + 19 + 1 + 2 + 1, .row 3 r20.2.1.length), (g + 3 + 8, .cells (Spot_.cells r20.2.2.1)), (v8, .cells [.b r20.2.2.2.1]), (g + 3 + 12 + 19, .obj none (mapIs (mpv kvSpot_ r20.2.2.2.2)))]) (.cons rfl (.cons rfl (.cons rfl (.cons rfl (.cons rfl .nil))))) (by decide)
     refine o_hsat (bs := [.ep (srchC x3 true (g + 3 + 12 + 19)), .agg [.i v11, .i v12, .i v13, .i v14, .i v15, .i v16], .fn (.func 86) [] [.ep [.ep (srchC x3 true (g + 3 + 12 + 19))], .ep [.i r19.1], .ptr (g + 3 + 12 + 19 + 1 + 2 + 0) 0, .ptr (g + 3 + 8) 0, .ptr v8 0]]) (M := [(g + 3 + 12 + 19 + 1 + 2 + 0, .cells [.sl (.id (g + 3 + 12 + 19 + 1 + 2 + 1)) 1 (v10.map cI)]), (g + 3 + 12 + 19 + 1 + 2 + 1, .row 3 v10.length), (g + 3 + 8, .cells [.i v11, .i v12, .i v13, .i v14, .i v15, .i v16]), (v8, .cells [.b false]), (g + 3 + 12 + 19, .obj none (mapIs (mpv kvSpot_ r19.2)))]) (M' := [(g + 3 + 12 + 19 + 1 + 2 + 0, .cells [.sl (.id (g + 3 + 12 + 19 + 1 + 2 + 1)) 1 (r20.2.1.map cI)]), (g + 3 + 12 + 19 + 1 + 2 + 1, .row 3 r20.2.1.length), (g + 3 + 8, .cells (Spot_.cells r20.2.2.1)), (v8, .cells [.b r20.2.2.2.1]), (g + 3 + 12 + 19, .obj none (mapIs (mpv kvSpot_ r20.2.2.2.2)))]) (L' := [(v8, .cells [.b r20.2.2.2.1]), (g + 3 + 12 + 19 + 1 + 2 + 1, .row 3 r20.2.1.length), (g + 3 + 12 + 19 + 1 + 2 + 0, .cells [.sl (.id (g + 3 + 12 + 19 + 1 + 2 + 1)) 1 (r20.2.1.map cI)]), (g + 3 + 8, .cells (Spot_.cells r20.2.2.1)), (g + 3 + 12 + 19, .obj none (mapIs (mpv kvSpot_ r20.2.2.2.2)))]) [2, 1, 3, 0, 4] (.inl rfl) hS (by decide) rfl rfl ((W_coins_search_next (Lo := (fun (s : (List Int) × Spot_ × Bool × (List (Spot_ × Int))) => [(g + 3 + 12 + 19 + 1 + 2 + 0, .cells [.sl (.id (g + 3 + 12 + 19 + 1 + 2 + 1)) 1 (s.1.map cI)]), (g + 3 + 12 + 19 + 1 + 2 + 1, .row 3 s.1.length), (g + 3 + 8, .cells (Spot_.cells s.2.1)), (v8, .cells [.b s.2.2.1]), (g + 3 + 12 + 19, .obj none (mapIs (mpv kvSpot_ s.2.2.2)))]))  (fun _ _ => (kl_cells (kl_row (kl_cells (kl_cells (kl_obj kl_nil)))))) (fun _ => hndr20) (fun s => (inb_st (ic_cells (ci_cons (.inl (.inr ⟨_, _, _, _, _, rfl, (List.mem_of_getElem? (i := 1) rfl), pures_map (fun x => (pl_cons (.v _) pl_nil))⟩)) ci_nil) (ic_row (ic_cells (ci_cons (.inl (.inl (.v _))) (ci_cons (.inl (.inl (.v _))) (ci_cons (.inl (.inl (.v _))) (ci_cons (.inl (.inl (.v _))) (ci_cons (.inl (.inl (.v _))) (ci_cons (.inl (.inl (.v _))) ci_nil)))))) (ic_cells (ci_cons (.inl (.inl (.v _))) ci_nil) (ic_obj ic_nil))))) inb_nil)) (aF := (fun (x0 : List Int) (x1 : Spot_) (x2 : Int) s => coins_Order_c1 n x0 x1 x2 (x3, true) r19.1 s)) (fun s H hH => (.fn _ _ _ ai_nil (ai_cons (.ep _ (ai_cons (.ep _ (ai_cons (show Go.AM.Pure _ from .v _).inH (ai_cons (show Go.AM.Pure _ from .sl _ _ (pures_map (fun x => (pl_cons (.v _) pl_nil)))).inH (ai_cons (show Go.AM.Pure _ from .sl _ _ (pures_map (fun x => (pl_cons (.v _) pl_nil)))).inH (ai_cons (show Go.AM.Pure _ from pure_fnB _).inH (ai_cons (in_mp hH 4 rfl) ai_nil)))))) ai_nil)) (ai_cons (.ep _ (ai_cons (show Go.AM.Pure _ from .v _).inH ai_nil)) (ai_cons (in_ptr hH 0 rfl) (ai_cons (in_ptr hH 2 rfl) (ai_cons (in_ptr hH 3 rfl) ai_nil))))))) rfl (fun h => csat_hv (W_coins_Order_c1 (p1 := g + 3 + 12 + 19 + 1 + 2 + 0)  (w1 := g + 3 + 12 + 19 + 1 + 2 + 1)  (p2 := g + 3 + 8)  (p3 := v8)  (p4 := g + 3 + 12 + 19)  hncr20 h)) hr20).le (.k (.k (.k .nil)))) (.cons rfl (.cons rfl (.cons rfl (.cons rfl (.cons rfl .nil))))) rfl (by omega) fun H hS => ?_
     refine Ni ?_
     refine r_blk_normal ?_
     refine Ws ?_
     refine Sq ?_
     refine Rg 1 ?_
     refine o_load (v := .b r20.2.2.2.1) 0 hS (by decide) rfl rfl .no (po ty_agg4 ty_sc4) ?_
     refine Ni ?_
     replace hS := hS.keep (L' := [(g + 3 + 12 + 19 + 1 + 2 + 1, .row 3 r20.2.1.length), (g + 3 + 12 + 19 + 1 + 2 + 0, .cells [.sl (.id (g + 3 + 12 + 19 + 1 + 2 + 1)) 1 (r20.2.1.map cI)]), (g + 3 + 8, .cells (Spot_.cells r20.2.2.1)), (g + 3 + 12 + 19, .obj none (mapIs (mpv kvSpot_ r20.2.2.2.2)))]) [false, true, true, true, true] rfl
     refine Ws ?_
     refine Rg 2 ?_
     refine o_alloc hS (by decide) ty_zero4 (by omega) fun H hS => ?_
     refine o_store (v := .b r20.2.2.2.1) (ns := [.b r20.2.2.2.1]) (L' := [(g3 + 1 + 1 + 5 + 4 + 1 + 0, .cells [.b r20.2.2.2.1]), (g + 3 + 12 + 19 + 1 + 2 + 1, .row 3 r20.2.1.length), (g + 3 + 12 + 19 + 1 + 2 + 0, .cells [.sl (.id (g + 3 + 12 + 19 + 1 + 2 + 1)) 1 (r20.2.1.map cI)]), (g + 3 + 8, .cells (Spot_.cells r20.2.2.1)), (g + 3 + 12 + 19, .obj none (mapIs (mpv kvSpot_ r20.2.2.2.2)))]) 0 hS rfl rfl .no rfl rfl ty_var4 nlb rfl fun H hS => ?_
     refine Ni ?_
     exact w_round (g3 + 1 + 1 + 5 + 4 + 1 + 0, r20.2.2.2.1, r20.2.1, r20.2.2.1.left.c0, r20.2.2.1.left.c1, r20.2.2.1.left.c2, r20.2.2.1.left.c3, r20.2.2.1.place, r20.2.2.1.credit, r20.2.2.2.2) (Nat.lt_succ_self _) (.k (.k (.k (.k .nil)))) ⟨(hS.keep [true, true, true, true, true] rfl).up (by omega), hM⟩
    ·replace hM := ifF hM hb18
     refine Cf hb18 ?_
     refine r_exit ?_
     refine r_then_exit ?_
     refine w_round_exit ?_
     refine r_blk_exit ?_
     exact w_goto (v8, v10) (.k (.k .nil)) ⟨(hS.keep [false, true, true, false, false] rfl).up (by omega), hM⟩
 ·replace hM := ifF hM hb2
  have hb2' : r1.1 = none := by rw [Option.isSome_eq_false_iff, Option.isNone_iff_eq_none] at hb2; exact hb2
  refine o_call (bs := [.agg (Wheel.cells a0), .sl .no 1 (a1.map cI), .fn (.func 65) [] []]) (by decide) rfl rfl ((W_coins_seek_none (r := r1.2) (by rw [← hb2']; exact hr1)).le (.k (.k (.k .nil)))) ?_
  refine Om (.tup [.v (.pointer none), .agg (Spot_.cells r1.2.1), .i r1.2.2]) ?_
  refine Ox (.v (.pointer none)) ?_
  refine Ox (.agg (Spot_.cells r1.2.1)) ?_
  refine Ox (.i r1.2.2) ?_
  refine o_alloc hS (by decide) ty_zero86 (by omega) fun H hS => ?_
  refine o_alloc hS (by decide) ty_zero90 (by omega) fun H hS => ?_
  refine o_store (v := .v (.pointer none)) (ns := [.v (.pointer none)]) (L' := [(g + 3 + 8, .cells [.i 0, .i 0, .i 0, .i 0, .i 0, .i 0]), (g + 3 + 7, .cells [.v (.pointer none)])]) 1 hS rfl rfl .no rfl rfl ty_var86 nlb rfl fun H hS => ?_
  refine o_store (v := .agg (Spot_.cells r1.2.1)) (ns := (Spot_.cells r1.2.1)) (L' := [(g + 3 + 8, .cells (Spot_.cells r1.2.1)), (g + 3 + 7, .cells [.v (.pointer none)])]) 0 hS rfl rfl .no rfl rfl ty_var90 nlb rfl fun H hS => ?_
  refine Oa (.i r1.2.2) ?_
  refine Ni ?_
  refine w_iceE (L' := [(g + 3 + 8, .cells (Spot_.cells r1.2.1))]) 1 6 hS rfl rfl rfl fun H hS => ?_
  refine Ws ?_
  refine Sq ?_
  refine Sq ?_
  refine Rg 2 ?_
  refine Om (.i r1.2.2) ?_
  refine Oi (.b (r1.2.2 != 0)) ?_
  refine Ni ?_
  refine Ws ?_
  rcases bft (r1.2.2 != 0) with hb21 | hb21
  ·replace hM := ifT hM hb21
   refine Ct hb21 ?_
   refine Sq ?_
   refine Rg 3 ?_
   refine Om (.i r1.2.2) ?_
   refine Oa (.sl .nil 0 []) ?_
   refine Oa (.i r1.2.2) ?_
   refine Ni ?_
   replace hS := hS.keep (L' := []) [false] rfl
   refine Ws ?_
   refine r_ret ?_
   refine r_then_ret ?_
   refine w_end (x := .tup [.sl .nil 0 [], .i r1.2.2]) (f := fun r => .tup [.sl .no 1 (r.1.map cI), .i r.2]) (.inr rfl) ?_ (.tupL (.cons (.sl0 .nil 1 0) (.k .nil))) (Option.some.inj hM) hS
   exact (res_two (res_tmp (x := .sl .nil 0 []) rfl) (res_tmp (x := .i r1.2.2) rfl))
  ·replace hM := ifF hM hb21
   refine Cf hb21 ?_
   refine r_skip ?_
   refine Ws ?_
   refine Sq ?_
   refine Rg 1 ?_
   refine o_alloc hS (by decide) ty_zero22 (by omega) fun H hS => ?_
   refine Ni ?_
   refine w_ownC (cs' := [.sl (.id (g + 3 + 12 + 2 + 1)) 1 (([] : List Int).map cI)]) (L' := [(g + 3 + 12 + 2 + 0, .cells [.sl (.id (g + 3 + 12 + 2 + 1)) 1 (([] : List Int).map cI)]), (g + 3 + 8, .cells (Spot_.cells r1.2.1))]) 0 0 1 3 hS (by omega) (by decide) rfl rfl rfl rfl fun H hS => ?_
   refine Ws ?_
   refine Sq ?_
   refine Sq ?_
   refine Rg 2 ?_
   refine o_alloc hS (by decide) ty_zero4 (by omega) fun H hS => ?_
   refine o_store (v := .b true) (ns := [.b true]) (L' := [(g + 3 + 12 + 2 + 1 + 1 + 0, .cells [.b true]), (g + 3 + 12 + 2 + 1, .row 3 0), (g + 3 + 12 + 2 + 0, .cells [.sl (.id (g + 3 + 12 + 2 + 1)) 1 (([] : List Int).map cI)]), (g + 3 + 8, .cells (Spot_.cells r1.2.1))]) 0 hS rfl rfl .no rfl rfl ty_var4 nlb rfl fun H hS => ?_
   refine Ni ?_
   refine Ws ?_
   refine r_block ?_
   refine w_loop (V := Nat) (fun v => [(6, .ep [.v (.pointer none)]), (7, .ptr (g + 3 + 8) 0), (9, .ptr (g + 3 + 12 + 2 + 0) 0), (10, .ptr v 0)]) (fun v m4 H' g' => St (· < g) H0 [(v, .cells [.b true]), (g + 3 + 12 + 2 + 1, .row 3 ([] : List Int).length), (g + 3 + 12 + 2 + 0, .cells [.sl (.id (g + 3 + 12 + 2 + 1)) 1 (([] : List Int).map cI)]), (g + 3 + 8, .cells (Spot_.cells r1.2.1))] H' g' ∧ coins_Order_l2 m4 = some r) (n := n) (g + 3 + 12 + 2 + 1 + 1 + 0) (.k (.k (.k (.k .nil)))) ⟨(hS.keep [true, true, true, true] rfl).up (by omega), hM⟩ ?_
   rintro v22 m4 H g4 ⟨hS, hM⟩
   obtain _ | m4 := m4
   ·exact nomatch (show none = some _ from hM)
   change wpA _ _ _ _ (Fr.of [(6, .ep [.v (.pointer none)]), (7, .ptr (g + 3 + 8) 0), (9, .ptr (g + 3 + 12 + 2 + 0) 0), (10, .ptr v22 0)]) _ _
   replace hS : St (· < g) H0 [(v22, .cells [.b true]), (g + 3 + 12 + 2 + 1, .row 3 ([] : List Int).length), (g + 3 + 12 + 2 + 0, .cells [.sl (.id (g + 3 + 12 + 2 + 1)) 1 (([] : List Int).map cI)]), (g + 3 + 8, .cells (Spot_.cells r1.2.1))] H g4 := hS
   replace hM : coins_Order_l2_b (coins_Order_l2 m4) = some r := hM
   refine Sq ?_
   refine Sq ?_
   refine Rg 1 ?_
   refine o_load (v := .b true) 0 hS (by decide) rfl rfl .no (po ty_agg4 ty_sc4) ?_
   refine Ni ?_
   refine Ws ?_
   refine w_condT (e := true) rfl rfl ?_
   refine r_skip ?_
   refine Ws ?_
   refine Sq ?_
   refine r_block ?_
   refine Sq ?_
   refine Rg 1 ?_
   refine o_store (v := .b false) (ns := [.b false]) (L' := [(v22, .cells [.b false]), (g + 3 + 12 + 2 + 1, .row 3 ([] : List Int).length), (g + 3 + 12 + 2 + 0, .cells [.sl (.id (g + 3 + 12 + 2 + 1)) 1 (([] : List Int).map cI)]), (g + 3 + 8, .cells (Spot_.cells r1.2.1))]) 0 hS rfl rfl .no rfl rfl ty_var4 nlb rfl fun H hS => ?_
   refine Ni ?_
   refine Ws ?_
   refine Sq ?_
   refine Rg 5 ?_
   refine Olp (.v (.pointer none)) ty_agg86 ty_sc86 ?_
   refine o_load (v := .agg (Spot_.cells r1.2.1)) 3 hS (by decide) rfl rfl .no (pg ty_agg90) ?_
   exact nomatch (show none = some _ from hM)
theorem W_ref01_Buys {n : Nat} {a0 : Wheel} {a1 : List Int} {r : Int} (hM : ref01_Buys n a0 a1 = some r) : PureSat Try.prog 47 [.agg (Wheel.cells a0), .sl .no 1 (a1.map cI)] (.i r) := by
 refine pure_of_wp mixed Try.func47 rfl (by decide) Try.ntmps47 (by simp) ?pure fun H0 g hf => ?_
 case pure => exact .v _
 rw [frame0_of]
 change wpA _ _ _ _ (Fr.of [(0, .agg (Wheel.cells a0)), (1, .sl .no 1 (a1.map cI))]) H0 g
 have hS := St.start hf
 refine Sq ?_
 refine Rg 2 ?_
 refine o_box (v := .agg (Wheel.cells a0)) (cs := (Wheel.cells a0)) hS (by decide) rfl rfl (by omega) fun H hS => ?_
 refine Oa (.i 0) ?_
 refine Ni ?_
 refine w_iceE (L' := []) 0 2 hS rfl rfl rfl fun H hS => ?_
 refine Ws ?_
 refine Sq ?_
 refine Rg 1 ?_
 refine o_alloc hS (by decide) ty_zero57 (by omega) fun H hS => ?_
 refine Ni ?_
 refine Ws ?_
 refine Sq ?_
 refine Rg 1 ?_
 refine Oa (.i 0) ?_
 refine Ni ?_
 refine Ws ?_
 refine w_join (J := Int) (fun j => [(6, .i j)]) (fun j H' g' => St (· < g) H0 [] H' g' ∧ ref01_Buys_j1 j = some r) ?_ ?_
 ·rintro v1 H g1 ⟨hS, hM⟩
  change wpA _ _ _ _ (Fr.of [(6, .i v1)]) _ _
  replace hS : St (· < g) H0 [] H g1 := hS
  replace hM : ref01_Buys_j1 v1 = some r := hM
  refine Sq ?_
  refine Rg 2 ?_
  refine Om (.i v1) ?_
  refine Oa (.i v1) ?_
  refine Ni ?_
  refine Ws ?_
  refine r_ret ?_
  refine w_end (x := .i v1) (f := fun r => .i r) (.inr rfl) ?_ (.refl _) (Option.some.inj hM) hS
  exact (res_one (res_tmp (x := .i v1) rfl))
 ·refine Sq ?_
  refine Rg 1 ?_
  refine Oa (.i 0) ?_
  refine Ni ?_
  refine Ws ?_
  refine r_block ?_
  refine w_loop (V := Int × Int × Int × Int) (fun v => [(1, .sl .no 1 (a1.map cI)), (2, .ep (Wheel.cells a0)), (5, .ptr (g + 2 + 0) 0), (6, .i v.1), (7, .i v.2.1)]) (fun v m3 H' g' => St (· < g) H0 [(g + 2 + 0, .cells [.i v.2.2.1, .i v.2.2.2])] H' g' ∧ ref01_Buys_l1 n a0 a1 m3 v.1 v.2.1 v.2.2.1 v.2.2.2 = some r) (n := n) (0, 0, 0, 0) (.k (.k (.k (.k (.k .nil))))) ⟨(hS.keep [true] rfl).up (by omega), hM⟩ ?_
  rintro ⟨v4, v5, v6, v7⟩ m3 H g3 ⟨hS, hM⟩
  obtain _ | m3 := m3
  ·exact nomatch (show none = some _ from hM)
  change wpA _ _ _ _ (Fr.of [(1, .sl .no 1 (a1.map cI)), (2, .ep (Wheel.cells a0)), (5, .ptr (g + 2 + 0) 0), (6, .i v4), (7, .i v5)]) _ _
  replace hS : St (· < g) H0 [(g + 2 + 0, .cells [.i v6, .i v7])] H g3 := hS
  replace hM : ref01_Buys_l1_b n a0 a1 (ref01_Buys_l1 n a0 a1 m3) v4 v5 v6 v7 = some r := hM
  refine Sq ?_
  refine Sq ?_
  refine Rg 4 ?_
  refine Om (.i v5) ?_
  refine Om (.sl .no 1 (a1.map cI)) ?_
  refine o_len (n := a1.length) (by decide) rfl (List.length_map _) ty_isl22 ?_
  refine Oi (.b (decide (v5 < (a1.length : Int)))) ?_
  refine Ni ?_
  refine Ws ?_
  rcases bft (decide (v5 < (a1.length : Int))) with hb8 | hb8
  ·replace hM := ifT hM hb8
   refine Ct hb8 ?_
   refine r_skip ?_
   refine Ws ?_
   refine Sq ?_
   refine r_block ?_
   refine Sq ?_
   have hS0 := hS
   refine r_draw (n := 13) rfl (by kernel_rfl) ?_
   refine Olg (.agg (Wheel.cells a0)) ty_agg24 ?_
   refine o_load (v := .agg [.i v6, .i v7]) 0 hS (by decide) rfl rfl (.st hS0 0 rfl (by omega)) (pg ty_agg57) ?_
   refine Om (.sl .no 1 (a1.map cI)) ?_
   refine Om (.i v5) ?_
   obtain ⟨x9, hx9, hM⟩ := bindE hM
   refine o_index (xs := a1) (f := cI) (z := v5) (u := x9) (by decide) rfl rfl ty_es22 hx9 ?_
   refine Olp (.i x9) ty_agg3 ty_sc3 ?_
   obtain ⟨r10, hr10, hM⟩ := bindE hM
   refine o_call (bs := [.agg (Wheel.cells a0), .agg [.i v6, .i v7], .i x9]) (by decide) rfl rfl ((W_ref01_Act hr10).le (.k (.k (.k .nil)))) ?_
   refine Om (.tup [.agg (Stand.cells r10.1), .b r10.2]) ?_
   refine Ox (.agg (Stand.cells r10.1)) ?_
   refine Ox (.b r10.2) ?_
   refine o_alloc hS (by decide) ty_zero57 (by omega) fun H hS => ?_
   refine o_store (v := .agg (Stand.cells r10.1)) (ns := (Stand.cells r10.1)) (L' := [(g3 + 4 + 10, .cells (Stand.cells r10.1)), (g + 2 + 0, .cells [.i v6, .i v7])]) 0 hS rfl rfl (.behind (by kernel_rfl)) rfl rfl ty_var57 nlb rfl fun H hS => ?_
   refine Oa (.b r10.2) ?_
   refine Ni ?_
   refine w_iceE (L' := [(g + 2 + 0, .cells [.i v6, .i v7])]) 0 8 hS rfl rfl rfl fun H hS => ?_
   refine Ws ?_
   refine Sq ?_
   refine Rg 8 ?_
   refine Om (.i v4) ?_
   refine Of ((Stand.cells r10.1)) ty_fo57_1 ?_
   refine Olp (.i r10.1.Credit) ty_agg3 ty_sc3 ?_
   refine o_fieldP (by decide) ty_fo57_1 rfl ?_
   refine o_load (v := .i v7) 0 hS (by decide) rfl rfl .no (po ty_agg3 ty_sc3) ?_
   refine Oi (.i (w64 (r10.1.Credit - v7))) ?_
   refine Oi (.i (w64 (v4 + (w64 (r10.1.Credit - v7))))) ?_
   refine Oa (.i (w64 (v4 + (w64 (r10.1.Credit - v7))))) ?_
   refine Ni ?_
   refine Ws ?_
   refine w_join (J := Int) (fun j => [(1, .sl .no 1 (a1.map cI)), (2, .ep (Wheel.cells a0)), (5, .ptr (g + 2 + 0) 0), (6, .i j), (7, .i v5), (8, .ep (Stand.cells r10.1))]) (fun j H' g' => St (· < g) H0 [(g + 2 + 0, .cells [.i v6, .i v7])] H' g' ∧ ref01_Buys_j2 (ref01_Buys_l1 n a0 a1 m3) v5 r10 j = some r) ?_ ?_
   ·rintro v11 H g4 ⟨hS, hM⟩
    change wpA _ _ _ _ (Fr.of [(1, .sl .no 1 (a1.map cI)), (2, .ep (Wheel.cells a0)), (5, .ptr (g + 2 + 0) 0), (6, .i v11), (7, .i v5), (8, .ep (Stand.cells r10.1))]) _ _
    replace hS : St (· < g) H0 [(g + 2 + 0, .cells [.i v6, .i v7])] H g4 := hS
    replace hM : ref01_Buys_j2 (ref01_Buys_l1 n a0 a1 m3) v5 r10 v11 = some r := hM
    refine Rg 2 ?_
    refine Olg (.agg (Stand.cells r10.1)) ty_agg57 ?_
    refine o_store (v := .agg (Stand.cells r10.1)) (ns := (Stand.cells r10.1)) (L' := [(g + 2 + 0, .cells (Stand.cells r10.1))]) 0 hS rfl rfl .no rfl rfl ty_var57 nlb rfl fun H hS => ?_
    refine Ni ?_
    refine r_blk_normal ?_
    refine Ws ?_
    refine Rg 3 ?_
    refine Om (.i v5) ?_
    refine Oi (.i (w64 (v5 + 1))) ?_
    refine Oa (.i (w64 (v5 + 1))) ?_
    refine Ni ?_
    exact w_round (v11, w64 (v5 + 1), r10.1.Place, r10.1.Credit) (Nat.lt_succ_self _) (.k (.k (.k (.k (.k .nil))))) ⟨(hS.keep [true] rfl).up (by omega), hM⟩
   ·refine Sq ?_
    refine Rg 1 ?_
    refine Om (.b r10.2) ?_
    refine Ni ?_
    refine Ws ?_
    rcases bft r10.2 with hb12 | hb12
    ·replace hM := ifT hM hb12
     refine Ct hb12 ?_
     refine Rg 3 ?_
     refine Om (.i (w64 (v4 + (w64 (r10.1.Credit - v7))))) ?_
     refine Oi (.i (w64 ((w64 (v4 + (w64 (r10.1.Credit - v7)))) + 1))) ?_
     refine Oa (.i (w64 ((w64 (v4 + (w64 (r10.1.Credit - v7)))) + 1))) ?_
     refine Ni ?_
     exact w_goto (w64 ((w64 (v4 + (w64 (r10.1.Credit - v7)))) + 1)) (.k (.k (.k (.k (.k (.k .nil)))))) ⟨(hS.keep [true] rfl).up (by omega), hM⟩
    ·replace hM := ifF hM hb12
     refine Cf hb12 ?_
     refine r_skip ?_
     exact w_goto (w64 (v4 + (w64 (r10.1.Credit - v7)))) (.k (.k (.k (.k (.k (.k .nil)))))) ⟨(hS.keep [true] rfl).up (by omega), hM⟩
  ·replace hM := ifF hM hb8
   refine Cf hb8 ?_
   refine r_exit ?_
   refine r_then_exit ?_
   refine w_round_exit ?_
   refine r_blk_exit ?_
   exact w_goto v4 (.k .nil) ⟨(hS.keep [false] rfl).up (by omega), hM⟩
theorem W_law01_isWay {n : Nat} {a0 : Wheel} {a1 : List Int} {a2 : List Int} {r : Bool} (hM : law01_isWay n a0 a1 a2 = some r) : PureSat Try.prog 48 [.agg (Wheel.cells a0), .sl .no 1 (a1.map cI), .sl .no 1 (a2.map cI)] (.b r) := by
 refine pure_of_wp mixed Try.func48 rfl (by decide) Try.ntmps48 (by simp) ?pure fun H0 g hf => ?_
 case pure => exact .v _
 rw [frame0_of]
 change wpA _ _ _ _ (Fr.of [(0, .agg (Wheel.cells a0)), (1, .sl .no 1 (a1.map cI)), (2, .sl .no 1 (a2.map cI))]) H0 g
 have hS := St.start hf
 refine Sq ?_
 refine Rg 2 ?_
 refine o_box (v := .agg (Wheel.cells a0)) (cs := (Wheel.cells a0)) hS (by decide) rfl rfl (by omega) fun H hS => ?_
 refine Oa (.b false) ?_
 refine Ni ?_
 refine w_iceE (L' := []) 0 3 hS rfl rfl rfl fun H hS => ?_
 refine Ws ?_
 refine Sq ?_
 refine Rg 1 ?_
 refine Oa (.i 0) ?_
 refine Ni ?_
 refine Ws ?_
 refine w_join (J := Int) (fun j => [(1, .sl .no 1 (a1.map cI)), (2, .sl .no 1 (a2.map cI)), (3, .ep (Wheel.cells a0)), (7, .i j)]) (fun j H' g' => St (· < g) H0 [] H' g' ∧ law01_isWay_j1 n a0 a1 a2 j = some r) ?_ ?_
 ·rintro v1 H g1 ⟨hS, hM⟩
  change wpA _ _ _ _ (Fr.of [(1, .sl .no 1 (a1.map cI)), (2, .sl .no 1 (a2.map cI)), (3, .ep (Wheel.cells a0)), (7, .i v1)]) _ _
  replace hS : St (· < g) H0 [] H g1 := hS
  replace hM : law01_isWay_j1 n a0 a1 a2 v1 = some r := hM
  refine w_join (J := Bool) (fun j => [(6, .b j)]) (fun j H' g' => St (· < g) H0 [] H' g' ∧ law01_isWay_j2 j = some r) ?_ ?_
  ·rintro v2 H g2 ⟨hS, hM⟩
   change wpA _ _ _ _ (Fr.of [(6, .b v2)]) _ _
   replace hS : St (· < g) H0 [] H g2 := hS
   replace hM : law01_isWay_j2 v2 = some r := hM
   refine r_ret ?_
   refine w_end (x := .b v2) (f := fun r => .b r) (.inr rfl) ?_ (.refl _) (Option.some.inj hM) hS
   exact (res_one (res_tmp (x := .b v2) rfl))
  ·refine Rg 13 ?_
   refine Om (.sl .no 1 (a2.map cI)) ?_
   refine o_len (n := a2.length) (by decide) rfl (List.length_map _) ty_isl22 ?_
   refine Om (.i v1) ?_
   refine Oi (.i (w64 (2 * v1))) ?_
   refine Oi (.b (decide ((a2.length : Int) ≤ (w64 (2 * v1))))) ?_
   refine Om (.b (decide ((a2.length : Int) ≤ (w64 (2 * v1))))) ?_
   rcases bft (decide ((a2.length : Int) ≤ (w64 (2 * v1)))) with hb3 | hb3
   ·replace hM := ifT hM hb3
    refine Oy (want := true) hb3 ?_
    refine Olg (.agg (Wheel.cells a0)) ty_agg24 ?_
    refine Oy (want := true) hb3 ?_
    refine Om (.sl .no 1 (a2.map cI)) ?_
    refine Oy (want := true) hb3 ?_
    obtain ⟨r4, hr4, hM⟩ := bindE hM
    refine o_call (bs := [.agg (Wheel.cells a0), .sl .no 1 (a2.map cI)]) (by decide) rfl rfl ((W_ref01_Bag hr4).le (.k (.k .nil))) ?_
    refine Oy (want := true) hb3 ?_
    refine Om (.sl .no 1 (a1.map cI)) ?_
    refine Oy (want := true) hb3 ?_
    obtain ⟨r5, hr5, hM⟩ := bindE hM
    refine o_call (bs := [.sl .no 1 (r4.map cI), .sl .no 1 (a1.map cI)]) (by decide) rfl rfl ((W_ref01_SameInts hr5).le (.k (.k .nil))) ?_
    refine Pt (.b r5) hb3 ?_
    refine Oa (.b r5) ?_
    refine Ni ?_
    exact w_goto r5 (.k .nil) ⟨(hS.keep [] rfl).up (by omega), hM⟩
   ·replace hM := ifF hM hb3
    refine On (want := true) hb3 ?_
    refine On (want := true) hb3 ?_
    refine On (want := true) hb3 ?_
    refine On (want := true) hb3 ?_
    refine On (want := true) hb3 ?_
    refine Pf (.b false) hb3 ?_
    refine Oa (.b false) ?_
    refine Ni ?_
    exact w_goto false (.k .nil) ⟨(hS.keep [] rfl).up (by omega), hM⟩
 ·refine Sq ?_
  refine Rg 1 ?_
  refine Oa (.i 0) ?_
  refine Ni ?_
  refine Ws ?_
  refine r_block ?_
  refine w_loop (V := Int × Int) (fun v => [(1, .sl .no 1 (a1.map cI)), (2, .sl .no 1 (a2.map cI)), (3, .ep (Wheel.cells a0)), (7, .i v.1), (8, .i v.2)]) (fun v m3 H' g' => St (· < g) H0 [] H' g' ∧ law01_isWay_l1 n a0 a1 a2 m3 v.1 v.2 = some r) (n := n) (0, 0) (.k (.k (.k (.k (.k .nil))))) ⟨(hS.keep [] rfl).up (by omega), hM⟩ ?_
  rintro ⟨v6, v7⟩ m3 H g3 ⟨hS, hM⟩
  obtain _ | m3 := m3
  ·exact nomatch (show none = some _ from hM)
  change wpA _ _ _ _ (Fr.of [(1, .sl .no 1 (a1.map cI)), (2, .sl .no 1 (a2.map cI)), (3, .ep (Wheel.cells a0)), (7, .i v6), (8, .i v7)]) _ _
  replace hS : St (· < g) H0 [] H g3 := hS
  replace hM : law01_isWay_l1_b n a0 a1 a2 (law01_isWay_l1 n a0 a1 a2 m3) v6 v7 = some r := hM
  refine Sq ?_
  refine Sq ?_
  refine Rg 4 ?_
  refine Om (.i v7) ?_
  refine Om (.sl .no 1 (a2.map cI)) ?_
  refine o_len (n := a2.length) (by decide) rfl (List.length_map _) ty_isl22 ?_
  refine Oi (.b (decide (v7 < (a2.length : Int)))) ?_
  refine Ni ?_
  refine Ws ?_
  rcases bft (decide (v7 < (a2.length : Int))) with hb8 | hb8
  ·replace hM := ifT hM hb8
   refine Ct hb8 ?_
   refine r_skip ?_
   refine Ws ?_
   refine w_join (J := Int) (fun j => [(1, .sl .no 1 (a1.map cI)), (2, .sl .no 1 (a2.map cI)), (3, .ep (Wheel.cells a0)), (7, .i j), (8, .i v7)]) (fun j H' g' => St (· < g) H0 [] H' g' ∧ law01_isWay_j3 (law01_isWay_l1 n a0 a1 a2 m3) v7 j = some r) ?_ ?_
   ·rintro v9 H g4 ⟨hS, hM⟩
    change wpA _ _ _ _ (Fr.of [(1, .sl .no 1 (a1.map cI)), (2, .sl .no 1 (a2.map cI)), (3, .ep (Wheel.cells a0)), (7, .i v9), (8, .i v7)]) _ _
    replace hS : St (· < g) H0 [] H g4 := hS
    replace hM : law01_isWay_j3 (law01_isWay_l1 n a0 a1 a2 m3) v7 v9 = some r := hM
    refine Rg 3 ?_
    refine Om (.i v7) ?_
    refine Oi (.i (w64 (v7 + 1))) ?_
    refine Oa (.i (w64 (v7 + 1))) ?_
    refine Ni ?_
    exact w_round (v9, w64 (v7 + 1)) (Nat.lt_succ_self _) (.k (.k (.k (.k (.k .nil))))) ⟨(hS.keep [] rfl).up (by omega), hM⟩
   ·refine r_block ?_
    refine Sq ?_
    refine w_join (J := Bool) (fun j => [(1, .sl .no 1 (a1.map cI)), (2, .sl .no 1 (a2.map cI)), (3, .ep (Wheel.cells a0)), (7, .i v6), (8, .i v7), (29, .b j)]) (fun j H' g' => St (· < g) H0 [] H' g' ∧ law01_isWay_j4 (law01_isWay_l1 n a0 a1 a2 m3) a2 v6 v7 j = some r) ?_ ?_
    ·rintro v10 H g5 ⟨hS, hM⟩
     change wpA _ _ _ _ (Fr.of [(1, .sl .no 1 (a1.map cI)), (2, .sl .no 1 (a2.map cI)), (3, .ep (Wheel.cells a0)), (7, .i v6), (8, .i v7), (29, .b v10)]) _ _
     replace hS : St (· < g) H0 [] H g5 := hS
     replace hM : law01_isWay_j4 (law01_isWay_l1 n a0 a1 a2 m3) a2 v6 v7 v10 = some r := hM
     rcases bft v10 with hb11 | hb11
     ·replace hM := ifT hM hb11
      refine Ct hb11 ?_
      refine Sq ?_
      refine Rg 1 ?_
      refine Oa (.b false) ?_
      refine Ni ?_
      refine Ws ?_
      refine r_ret ?_
      refine r_then_ret ?_
      refine r_blk_ret ?_
      refine w_goto_ret ?_
      refine w_round_ret ?_
      refine r_blk_ret ?_
      refine w_goto_ret ?_
      refine w_end (x := .b false) (f := fun r => .b r) (.inr rfl) ?_ (.refl _) (Option.some.inj hM) hS
      exact (res_one (res_tmp (x := .b false) rfl))
     ·replace hM := ifF hM hb11
      refine Cf hb11 ?_
      refine r_skip ?_
      refine Ws ?_
      refine Sq ?_
      refine Rg 5 ?_
      refine Om (.sl .no 1 (a2.map cI)) ?_
      refine Om (.i v7) ?_
      obtain ⟨x12, hx12, hM⟩ := bindE hM
      refine o_index (xs := a2) (f := cI) (z := v7) (u := x12) (by decide) rfl rfl ty_es22 hx12 ?_
      refine Olp (.i x12) ty_agg3 ty_sc3 ?_
      refine Oi (.b (decide (x12 ≥ 0))) ?_
      refine Ni ?_
      refine Ws ?_
      rcases bft (decide (x12 ≥ 0)) with hb13 | hb13
      ·replace hM := ifT hM hb13
       refine Ct hb13 ?_
       refine Rg 3 ?_
       refine Om (.i v6) ?_
       refine Oi (.i (w64 (v6 + 1))) ?_
       refine Oa (.i (w64 (v6 + 1))) ?_
       refine Ni ?_
       refine r_blk_normal ?_
       exact w_goto (w64 (v6 + 1)) (.k (.k (.k (.k (.k .nil))))) ⟨(hS.keep [] rfl).up (by omega), hM⟩
      ·replace hM := ifF hM hb13
       refine Cf hb13 ?_
       refine r_skip ?_
       refine r_blk_normal ?_
       exact w_goto v6 (.k (.k (.k (.k (.k .nil))))) ⟨(hS.keep [] rfl).up (by omega), hM⟩
    ·have hS0 := hS
     refine r_draw (n := 15) rfl (by kernel_rfl) ?_
     refine Om (.sl .no 1 (a2.map cI)) ?_
     refine Om (.i v7) ?_
     obtain ⟨x14, hx14, hM⟩ := bindE hM
     refine o_index (xs := a2) (f := cI) (z := v7) (u := x14) (by decide) rfl rfl ty_es22 hx14 ?_
     refine Olp (.i x14) ty_agg3 ty_sc3 ?_
     refine Oi (.b (decide (x14 < (-1)))) ?_
     refine Om (.b (decide (x14 < (-1)))) ?_
     rcases bft (decide (x14 < (-1))) with hb15 | hb15
     ·replace hM := ifT hM hb15
      refine On (want := false) hb15 ?_
      refine On (want := false) hb15 ?_
      refine On (want := false) hb15 ?_
      refine On (want := false) hb15 ?_
      refine On (want := false) hb15 ?_
      refine On (want := false) hb15 ?_
      refine On (want := false) hb15 ?_
      refine On (want := false) hb15 ?_
      refine Pt (.b true) hb15 ?_
      refine Ni ?_
      exact w_goto true (.k (.k (.k (.k (.k (.k .nil)))))) ⟨(hS.keep [] rfl).up (by omega), hM⟩
     ·replace hM := ifF hM hb15
      refine Oy (want := false) hb15 ?_
      refine Om (.sl .no 1 (a2.map cI)) ?_
      refine Oy (want := false) hb15 ?_
      refine Om (.i v7) ?_
      refine Oy (want := false) hb15 ?_
      obtain ⟨x16, hx16, hM⟩ := bindE hM
      refine o_index (xs := a2) (f := cI) (z := v7) (u := x16) (by decide) rfl rfl ty_es22 hx16 ?_
      refine Oy (want := false) hb15 ?_
      refine Olp (.i x16) ty_agg3 ty_sc3 ?_
      refine Oy (want := false) hb15 ?_
      refine Of ((Wheel.cells a0)) ty_fo24_2 ?_
      refine Oy (want := false) hb15 ?_
      refine Olp (.sl .no 1 (a0.Coins.map cI)) ty_agg22 ty_sc22 ?_
      refine Oy (want := false) hb15 ?_
      refine o_len (n := a0.Coins.length) (by decide) rfl (List.length_map _) ty_isl22 ?_
      refine Oy (want := false) hb15 ?_
      refine Oi (.b (decide (x16 ≥ (a0.Coins.length : Int)))) ?_
      refine Pf (.b (decide (x16 ≥ (a0.Coins.length : Int)))) hb15 ?_
      refine Ni ?_
      exact w_goto (decide (x16 ≥ (a0.Coins.length : Int))) (.k (.k (.k (.k (.k (.k .nil)))))) ⟨(hS.keep [] rfl).up (by omega), hM⟩
  ·replace hM := ifF hM hb8
   refine Cf hb8 ?_
   refine r_exit ?_
   refine r_then_exit ?_
   refine w_round_exit ?_
   refine r_blk_exit ?_
   exact w_goto v6 (.k (.k (.k (.k .nil)))) ⟨(hS.keep [] rfl).up (by omega), hM⟩
theorem W_coins_parts_b {S : Type} {Lo : S → BL} (hk : ∀ s s', KinL (Lo s) (Lo s')) (hnd : ∀ s, (ids (Lo s)).Nodup) (hin : ∀ s, InB In (Lo s)) {aF : Bag_ → S → Option (Unit × S)} {f0 : AV} (hF : ∀ s H, Has H (Lo s) → In H f0) (h0 : cellsOf f0 = some [f0]) (hf : ∀ {x0 : Bag_} {s : S} {r : Unit × S}, aF x0 s = some r → CSat Try.prog f0 [.agg (Bag_.cells x0)] (Lo s) (.tup []) (Lo r.2)) {n : Nat} {rec : Bag_ → Int → S → Option (Unit × S)} (hrec : ∀ {a0 : Bag_} {a1 : Int} {st : S} {r : Unit × S}, rec a0 a1 st = some r → HSat Try.prog 87 [.agg (Bag_.cells a0), .i a1, f0] (Lo st) (.tup []) (Lo r.2)) {a0 : Bag_} {a1 : Int} {st : S} {r : Unit × S} (hM : coins_parts_b n rec aF a0 a1 st = some r) : HSat Try.prog 87 [.agg (Bag_.cells a0), .i a1, f0] (Lo st) (.tup []) (Lo r.2) := by
 have hnd0 : ∀ s, (ids (Lo s)).Nodup := fun s => hnd s
 refine hsat_of_wp mixed Try.func87 rfl (by decide) Try.ntmps87 (by simp) (hk _ _) (hnd st) ?pure ?cells fun H0 g hf_ hp => ?_
 case pure => exact fun H _ => (show Go.AM.Pure _ from .tup _ pl_nil).inH
 case cells => exact hin _
 rw [frame0_of]
 change wpA _ _ _ _ (Fr.of [(0, .agg (Bag_.cells a0)), (1, .i a1), (2, f0)]) H0 g
 have hS := St.startH (L := ([] ++ Lo st)) hf_ (hnd st) hp
 replace hS : St (fun i => i < g ∧ i ∉ ids (Lo st)) H0 ([] ++ Lo st) H0 g := hS
 refine Sq ?_
 refine Rg 1 ?_
 refine o_box (v := .agg (Bag_.cells a0)) (cs := (Bag_.cells a0)) hS (by decide) rfl rfl (by omega) fun H hS => ?_
 refine Ni ?_
 refine Ws ?_
 refine Sq ?_
 refine Sq ?_
 refine Rg 2 ?_
 refine Om (.i a1) ?_
 refine Oi (.b (a1 == 4)) ?_
 refine Ni ?_
 refine Ws ?_
 rcases bft (a1 == 4) with hb1 | hb1
 ·replace hM := ifT hM hb1
  refine Ct hb1 ?_
  refine Sq ?_
  refine Rg 3 ?_
  refine Om (f0) ?_
  refine o_load (v := .agg (Bag_.cells a0)) 0 hS (by decide) rfl rfl .no (pg ty_agg88) ?_
  obtain ⟨r2, hr2, hM⟩ := bindE hM
  replace hS : St (fun i => i < g ∧ i ∉ ids (Lo st)) H0 ([(g + 0, .cells (Bag_.cells a0))] ++ Lo st) _ _ := hS
  refine o_state (bs := [.agg (Bag_.cells a0)]) (.inl rfl) hS (by decide) rfl rfl ((hf hr2).le (.k .nil)) (hk _ _).ids (by omega) fun H hS => ?_
  refine Ni ?_
  replace hS := hS.keep (L' := ([] ++ Lo r2.2)) [false] rfl
  refine Ws ?_
  refine r_ret ?_
  refine r_then_ret ?_
  refine w_endS (x := .tup []) (f := fun r => .tup []) (fd := fun r => (Lo r.2)) (.inr rfl) ?_ (.refl _) (Option.some.inj hM) hS 0 rfl
  exact rfl
 ·replace hM := ifF hM hb1
  refine Cf hb1 ?_
  refine r_skip ?_
  refine Ws ?_
  refine Sq ?_
  refine Rg 4 ?_
  refine Om (.i a1) ?_
  obtain ⟨x3, hx3, hM⟩ := bindE hM
  refine o_indexP (z := a1) (by decide) rfl rfl ty_arr88 (idx_lt hx3) ?_
  refine o_loadX (xs := ([a0.c0, a0.c1, a0.c2, a0.c3] : List Int)) (z := a1) (u := x3) (off := 0) 0 hS (by decide) rfl rfl .no rfl hx3 ty_agg3 ty_sc3 ?_
  refine Oa (.i x3) ?_
  refine Ni ?_
  refine Ws ?_
  refine r_block ?_
  refine w_loop (V := Int × Int × Int × Int × Int × S) (fun v => [(1, .i a1), (2, f0), (3, .ptr (g + 0) 0), (6, .i v.1)]) (fun v m2 H' g' => St (fun i => i < g ∧ i ∉ ids (Lo st)) H0 ([(g + 0, .cells [.i v.2.1, .i v.2.2.1, .i v.2.2.2.1, .i v.2.2.2.2.1])] ++ Lo v.2.2.2.2.2) H' g' ∧ coins_parts_l1 rec a1 m2 v.1 v.2.1 v.2.2.1 v.2.2.2.1 v.2.2.2.2.1 v.2.2.2.2.2 = some r) (n := n) (x3, a0.c0, a0.c1, a0.c2, a0.c3, st) (.k (.k (.k (.k .nil)))) ⟨(hS.keep [true] rfl).up (by omega), hM⟩ ?_
  rintro ⟨v5, v6, v7, v8, v9, v10⟩ m2 H g2 ⟨hS, hM⟩
  obtain _ | m2 := m2
  ·exact nomatch (show none = some _ from hM)
  change wpA _ _ _ _ (Fr.of [(1, .i a1), (2, f0), (3, .ptr (g + 0) 0), (6, .i v5)]) _ _
  replace hS : St (fun i => i < g ∧ i ∉ ids (Lo st)) H0 ([(g + 0, .cells [.i v6, .i v7, .i v8, .i v9])] ++ Lo v10) H g2 := hS
  replace hM : coins_parts_l1_b rec a1 (coins_parts_l1 rec a1 m2) v5 v6 v7 v8 v9 v10 = some r := hM
  refine Sq ?_
  refine Sq ?_
  refine Rg 2 ?_
  refine Om (.i v5) ?_
  refine Oi (.b (decide (v5 ≥ 0))) ?_
  refine Ni ?_
  refine Ws ?_
  rcases bft (decide (v5 ≥ 0)) with hb11 | hb11
  ·replace hM := ifT hM hb11
   refine Ct hb11 ?_
   refine r_skip ?_
   refine Ws ?_
   refine Sq ?_
   refine r_block ?_
   refine Sq ?_
   refine Rg 4 ?_
   refine Om (.i a1) ?_
   refine Om (.i v5) ?_
   obtain ⟨x12, hx12, hM⟩ := bindE hM
   refine o_indexP (z := a1) (by decide) rfl rfl ty_arr88 (idx_lt hx12) ?_
   obtain ⟨l13, hl13, hM⟩ := bindE hM
   refine o_storeX (xs := ([v6, v7, v8, v9] : List Int)) (u := l13) (z := a1) (v := v5) (off := 0) (cs' := [.i (l13.getD 0 0), .i (l13.getD 1 0), .i (l13.getD 2 0), .i (l13.getD 3 0)]) (L' := ([(g + 0, .cells [.i (l13.getD 0 0), .i (l13.getD 1 0), .i (l13.getD 2 0), .i (l13.getD 3 0)])] ++ Lo v10)) 0 hS rfl rfl .no rfl rfl hl13 ty_var3 rfl rfl fun H hS => ?_
   refine Ni ?_
   refine Ws ?_
   refine Rg 5 ?_
   refine o_load (v := .agg [.i (l13.getD 0 0), .i (l13.getD 1 0), .i (l13.getD 2 0), .i (l13.getD 3 0)]) 0 hS (by decide) rfl rfl .no (pg ty_agg88) ?_
   refine Om (.i a1) ?_
   refine Oi (.i (w64 (a1 + 1))) ?_
   refine Om (f0) ?_
   obtain ⟨r14, hr14, hM⟩ := bindE hM
   replace hS : St (fun i => i < g ∧ i ∉ ids (Lo st)) H0 ([(g + 0, .cells [.i (l13.getD 0 0), .i (l13.getD 1 0), .i (l13.getD 2 0), .i (l13.getD 3 0)])] ++ Lo v10) _ _ := hS
   refine o_stateH (bs := [.agg [.i (l13.getD 0 0), .i (l13.getD 1 0), .i (l13.getD 2 0), .i (l13.getD 3 0)], .i (w64 (a1 + 1)), f0]) (.inl rfl) hS (by decide) rfl rfl ((hrec hr14).le (.k (.k (.k .nil)))) (hk _ _).ids (by omega) fun H hS => ?_
   refine Ni ?_
   refine r_blk_normal ?_
   refine Ws ?_
   refine Rg 3 ?_
   refine Om (.i v5) ?_
   refine Oi (.i (w64 (v5 - 1))) ?_
   refine Oa (.i (w64 (v5 - 1))) ?_
   refine Ni ?_
   exact w_round (w64 (v5 - 1), (l13.getD 0 0), (l13.getD 1 0), (l13.getD 2 0), (l13.getD 3 0), r14.2) (Nat.lt_succ_self _) (.k (.k (.k (.k .nil)))) ⟨(hS.keep [true] rfl).up (by omega), hM⟩
  ·replace hM := ifF hM hb11
   refine Cf hb11 ?_
   refine r_exit ?_
   refine r_then_exit ?_
   refine w_round_exit ?_
   refine r_blk_exit ?_
   refine w_endS (x := .tup []) (f := fun r => .tup []) (fd := fun r => (Lo r.2)) (.inl rfl) ?_ (.refl _) (Option.some.inj hM) hS 1 rfl
   exact rfl
theorem W_coins_parts {S : Type} {Lo : S → BL} (hk : ∀ s s', KinL (Lo s) (Lo s')) (hnd : ∀ s, (ids (Lo s)).Nodup) (hin : ∀ s, InB In (Lo s)) {aF : Bag_ → S → Option (Unit × S)} {f0 : AV} (hF : ∀ s H, Has H (Lo s) → In H f0) (h0 : cellsOf f0 = some [f0]) (hf : ∀ {x0 : Bag_} {s : S} {r : Unit × S}, aF x0 s = some r → CSat Try.prog f0 [.agg (Bag_.cells x0)] (Lo s) (.tup []) (Lo r.2)) : ∀ {n : Nat} {a0 : Bag_} {a1 : Int} {st : S} {r : Unit × S}, coins_parts n aF a0 a1 st = some r → HSat Try.prog 87 [.agg (Bag_.cells a0), .i a1, f0] (Lo st) (.tup []) (Lo r.2)
 | 0, _, _, _, _, h => nomatch (show none = some _ from h)
 | n + 1, _, _, _, _, h => W_coins_parts_b hk hnd hin hF h0 hf (n := n) (rec := coins_parts n aF) (fun h => W_coins_parts hk hnd hin hF h0 hf h) h
theorem W_coins_wheel_worth {n : Nat} {a0 : Wheel_} {a1 : Bag_} {r : Int} (hM : coins_wheel_worth n a0 a1 = some r) : PureSat Try.prog 89 [.agg (Wheel_.cells a0), .agg (Bag_.cells a1)] (.i r) := by
 refine pure_of_wp mixed Try.func89 rfl (by decide) Try.ntmps89 (by simp) ?pure fun H0 g hf => ?_
 case pure => exact .v _
 rw [frame0_of]
 change wpA _ _ _ _ (Fr.of [(0, .agg (Wheel_.cells a0)), (1, .agg (Bag_.cells a1))]) H0 g
 have hS := St.start hf
 refine Sq ?_
 refine Rg 3 ?_
 refine o_box (v := .agg (Wheel_.cells a0)) (cs := (Wheel_.cells a0)) hS (by decide) rfl rfl (by omega) fun H hS => ?_
 refine o_box (v := .agg (Bag_.cells a1)) (cs := (Bag_.cells a1)) hS (by decide) rfl rfl (by omega) fun H hS => ?_
 refine Oa (.i 0) ?_
 refine Ni ?_
 refine w_iceE (L' := [(g + 1, .cells (Bag_.cells a1))]) 1 2 hS rfl rfl rfl fun H hS => ?_
 refine w_iceE (L' := []) 0 3 hS rfl rfl rfl fun H hS => ?_
 refine Ws ?_
 refine Sq ?_
 refine Rg 1 ?_
 refine Oa (.i 0) ?_
 refine Ni ?_
 refine Ws ?_
 refine w_join (J := Int) (fun j => [(5, .i j)]) (fun j H' g' => St (· < g) H0 [] H' g' ∧ coins_wheel_worth_j1 j = some r) ?_ ?_
 ·rintro v1 H g1 ⟨hS, hM⟩
  change wpA _ _ _ _ (Fr.of [(5, .i v1)]) _ _
  replace hS : St (· < g) H0 [] H g1 := hS
  replace hM : coins_wheel_worth_j1 v1 = some r := hM
  refine Sq ?_
  refine Rg 2 ?_
  refine Om (.i v1) ?_
  refine Oa (.i v1) ?_
  refine Ni ?_
  refine Ws ?_
  refine r_ret ?_
  refine w_end (x := .i v1) (f := fun r => .i r) (.inr rfl) ?_ (.refl _) (Option.some.inj hM) hS
  exact (res_one (res_tmp (x := .i v1) rfl))
 ·refine Sq ?_
  refine Rg 5 ?_
  refine Of ((Wheel_.cells a0)) ty_fo71_0 ?_
  refine Of ((Wheel_.cells a0)) ty_fo24_2 ?_
  refine Olp (.sl .no 1 (a0.Wheel.Coins.map cI)) ty_agg22 ty_sc22 ?_
  refine o_len (n := a0.Wheel.Coins.length) (by decide) rfl (List.length_map _) ty_isl22 ?_
  refine Om (.i 0) ?_
  refine Ni ?_
  refine Ws ?_
  refine r_block ?_
  refine w_loop (V := Int × Int) (fun v => [(3, .ep (Bag_.cells a1)), (5, .i v.1), (10, .sl .no 1 (a0.Wheel.Coins.map cI)), (11, .i (a0.Wheel.Coins.length : Int)), (12, .i v.2)]) (fun v m2 H' g' => St (· < g) H0 [] H' g' ∧ coins_wheel_worth_l1 a0 a1 m2 v.1 v.2 = some r) (n := n) (0, 0) (.k (.k (.k (.k (.k .nil))))) ⟨(hS.keep [] rfl).up (by omega), hM⟩ ?_
  rintro ⟨v2, v3⟩ m2 H g2 ⟨hS, hM⟩
  obtain _ | m2 := m2
  ·exact nomatch (show none = some _ from hM)
  change wpA _ _ _ _ (Fr.of [(3, .ep (Bag_.cells a1)), (5, .i v2), (10, .sl .no 1 (a0.Wheel.Coins.map cI)), (11, .i (a0.Wheel.Coins.length : Int)), (12, .i v3)]) _ _
  replace hS : St (· < g) H0 [] H g2 := hS
  replace hM : coins_wheel_worth_l1_b a0 a1 (coins_wheel_worth_l1 a0 a1 m2) v2 v3 = some r := hM
  refine Sq ?_
  refine Rg 1 ?_
  refine Oi (.b (decide (v3 < (a0.Wheel.Coins.length : Int)))) ?_
  refine Ni ?_
  refine Ws ?_
  refine Sq ?_
  rcases bft (decide (v3 < (a0.Wheel.Coins.length : Int))) with hb4 | hb4
  ·replace hM := ifT hM hb4
   refine Ct hb4 ?_
   refine r_skip ?_
   refine Ws ?_
   refine Sq ?_
   refine r_block ?_
   refine Sq ?_
   refine Rg 5 ?_
   refine Om (.i v3) ?_
   obtain ⟨x5, hx5, hM⟩ := bindE hM
   refine o_index (xs := a0.Wheel.Coins) (f := cI) (z := v3) (u := x5) (by decide) rfl rfl ty_es22 hx5 ?_
   refine Olp (.i x5) ty_agg3 ty_sc3 ?_
   refine Oa (.i v3) ?_
   refine Oa (.i x5) ?_
   refine Ni ?_
   refine Ws ?_
   refine Rg 8 ?_
   refine Om (.i v2) ?_
   refine Om (.i x5) ?_
   refine Om (.i v3) ?_
   obtain ⟨x6, hx6, hM⟩ := bindE hM
   refine o_indexEA (cs := (Bag_.cells a1)) (z := v3) (by decide) rfl rfl ty_arr88 (idx_lt hx6) ?_
   refine o_loadE (v := .i x6) (by decide) rfl (part_ix (xs := ([a1.c0, a1.c1, a1.c2, a1.c3] : List Int)) ty_agg3 ty_sc3 rfl hx6) ?_
   refine Oi (.i (w64 (x5 * x6))) ?_
   refine Oi (.i (w64 (v2 + (w64 (x5 * x6))))) ?_
   refine Oa (.i (w64 (v2 + (w64 (x5 * x6))))) ?_
   refine Ni ?_
   refine r_blk_normal ?_
   refine Ws ?_
   refine Rg 2 ?_
   refine Oi (.i (w64 (v3 + 1))) ?_
   refine Om (.i (w64 (v3 + 1))) ?_
   refine Ni ?_
   exact w_round (w64 (v2 + (w64 (x5 * x6))), w64 (v3 + 1)) (Nat.lt_succ_self _) (.k (.k (.k (.k (.k .nil))))) ⟨(hS.keep [] rfl).up (by omega), hM⟩
  ·replace hM := ifF hM hb4
   refine Cf hb4 ?_
   refine r_exit ?_
   refine r_then_exit ?_
   refine w_round_exit ?_
   refine r_blk_exit ?_
   exact w_goto v2 (.k .nil) ⟨(hS.keep [] rfl).up (by omega), hM⟩
theorem W_coins_Wasted_c1 {p1 p2 : Nat} (hnd : [p1, p2].Nodup) {n : Nat} {a0 : Bag_} {a1 : Wheel_ × Bool} {a2 : Spot_} {a4 : Int} {st : Int × (List (Spot_ × Int))} {r : Unit × (Int × (List (Spot_ × Int)))} (hM : coins_Wasted_c1 n a0 a1 a2 a4 st = some r) : HSat Try.prog 88 [.agg (Bag_.cells a0), .ep [.ep (srchC a1.1 a1.2 p2)], .ep (Spot_.cells a2), .ptr p1 0, .ep [.i a4]] [(p1, .cells [.i st.1]), (p2, .obj none (mapIs (mpv kvSpot_ st.2)))] (.tup []) [(p1, .cells [.i r.2.1]), (p2, .obj none (mapIs (mpv kvSpot_ r.2.2)))] := by
 refine hsat_of_wp mixed Try.func88 rfl (by decide) Try.ntmps88 (by simp) (kl_cells (kl_obj kl_nil)) hnd ?pure ?cells fun H0 g hf_ hp => ?_
 case pure => exact fun H _ => (show Go.AM.Pure _ from .tup _ pl_nil).inH
 case cells => exact (inb_st (ic_cells (ci_cons (.inl (.inl (.v _))) ci_nil) (ic_obj ic_nil)) inb_nil)
 rw [frame0_of]
 change wpA _ _ _ _ (Fr.of [(0, .agg (Bag_.cells a0)), (1, .ep [.ep (srchC a1.1 a1.2 p2)]), (2, .ep (Spot_.cells a2)), (3, .ptr p1 0), (4, .ep [.i a4])]) H0 g
 have hS := St.startH (L := [(p1, .cells [.i st.1]), (p2, .obj none (mapIs (mpv kvSpot_ st.2)))]) hf_ hnd hp
 replace hS : St (fun i => i < g ∧ i ∉ ids [(p1, .cells [.i st.1]), (p2, .obj none (mapIs (mpv kvSpot_ st.2)))]) H0 [(p1, .cells [.i st.1]), (p2, .obj none (mapIs (mpv kvSpot_ st.2)))] H0 g := hS
 refine Sq ?_
 refine Rg 1 ?_
 refine o_box (v := .agg (Bag_.cells a0)) (cs := (Bag_.cells a0)) hS (by decide) rfl rfl (by omega) fun H hS => ?_
 refine Ni ?_
 refine w_iceE (L' := [(p1, .cells [.i st.1]), (p2, .obj none (mapIs (mpv kvSpot_ st.2)))]) 0 5 hS rfl rfl rfl fun H hS => ?_
 refine Ws ?_
 refine Sq ?_
 have hS0 := hS
 refine r_draw (n := 15) rfl (by kernel_rfl) ?_
 refine Olp (.ep (srchC a1.1 a1.2 p2)) ty_agg86 ty_sc86 ?_
 refine o_nilE (by decide) rfl ?_
 refine Of ((srchC a1.1 a1.2 p2)) ty_fo114_0 ?_
 refine Olg (.agg (Wheel_.cells a1.1)) ty_agg71 ?_
 refine Of ((Spot_.cells a2)) ty_fo90_0 ?_
 refine Olg (.agg (Bag_.cells a2.left)) ty_agg88 ?_
 obtain ⟨r1, hr1, hM⟩ := bindE hM
 refine o_call (bs := [.agg (Wheel_.cells a1.1), .agg (Bag_.cells a2.left)]) (by decide) rfl rfl ((W_coins_wheel_worth hr1).le (.k (.k .nil))) ?_
 refine Olp (.ep (srchC a1.1 a1.2 p2)) ty_agg86 ty_sc86 ?_
 refine o_nilE (by decide) rfl ?_
 refine Of ((srchC a1.1 a1.2 p2)) ty_fo114_0 ?_
 refine Olg (.agg (Wheel_.cells a1.1)) ty_agg71 ?_
 refine Olg (.agg (Bag_.cells a0)) ty_agg88 ?_
 obtain ⟨r2, hr2, hM⟩ := bindE hM
 refine o_call (bs := [.agg (Wheel_.cells a1.1), .agg (Bag_.cells a0)]) (by decide) rfl rfl ((W_coins_wheel_worth hr2).le (.k (.k .nil))) ?_
 refine Oi (.i (w64 (r1 - r2))) ?_
 refine Oa (.i (w64 (r1 - r2))) ?_
 refine Ni ?_
 refine Ws ?_
 refine w_join (J := Bool × (List (Spot_ × Int))) (fun j => [(3, .ptr p1 0), (6, .i (w64 (r1 - r2))), (31, .b j.1)]) (fun j H' g' => St (fun i => i < g ∧ i ∉ ids [(p1, .cells [.i st.1]), (p2, .obj none (mapIs (mpv kvSpot_ st.2)))]) H0 [(p1, .cells [.i st.1]), (p2, .obj none (mapIs (mpv kvSpot_ j.2)))] H' g' ∧ coins_Wasted_c1_j1 st r1 r2 j.1 j.2 = some r) ?_ ?_
 ·rintro ⟨v3, v4⟩ H g1 ⟨hS, hM⟩
  change wpA _ _ _ _ (Fr.of [(3, .ptr p1 0), (6, .i (w64 (r1 - r2))), (31, .b v3)]) _ _
  replace hS : St (fun i => i < g ∧ i ∉ ids [(p1, .cells [.i st.1]), (p2, .obj none (mapIs (mpv kvSpot_ st.2)))]) H0 [(p1, .cells [.i st.1]), (p2, .obj none (mapIs (mpv kvSpot_ v4)))] H g1 := hS
  replace hM : coins_Wasted_c1_j1 st r1 r2 v3 v4 = some r := hM
  rcases bft v3 with hb5 | hb5
  ·replace hM := ifT hM hb5
   refine Ct hb5 ?_
   refine Rg 2 ?_
   refine Om (.i (w64 (r1 - r2))) ?_
   refine o_store (v := .i (w64 (r1 - r2))) (ns := [.i (w64 (r1 - r2))]) (L' := [(p1, .cells [.i (w64 (r1 - r2))]), (p2, .obj none (mapIs (mpv kvSpot_ v4)))]) 0 hS rfl rfl .no rfl rfl ty_var3 nlb rfl fun H hS => ?_
   refine Ni ?_
   refine w_endS (x := .tup []) (f := fun r => .tup []) (fd := fun r => [(p1, .cells [.i r.2.1]), (p2, .obj none (mapIs (mpv kvSpot_ r.2.2)))]) (.inl rfl) ?_ (.refl _) (Option.some.inj hM) hS 0 rfl
   exact rfl
  ·replace hM := ifF hM hb5
   refine Cf hb5 ?_
   refine r_skip ?_
   refine w_endS (x := .tup []) (f := fun r => .tup []) (fd := fun r => [(p1, .cells [.i r.2.1]), (p2, .obj none (mapIs (mpv kvSpot_ r.2.2)))]) (.inl rfl) ?_ (.refl _) (Option.some.inj hM) hS 0 rfl
   exact rfl
 ·have hS0 := hS
  refine r_draw (n := 11) rfl (by kernel_rfl) ?_
  refine Om (.i (w64 (r1 - r2))) ?_
  refine o_load (v := .i st.1) 0 hS (by decide) rfl rfl (.st hS0 0 rfl (by omega)) (po ty_agg3 ty_sc3) ?_
  refine Oi (.b (decide ((w64 (r1 - r2)) > st.1))) ?_
  refine Om (.b (decide ((w64 (r1 - r2)) > st.1))) ?_
  rcases bft (decide ((w64 (r1 - r2)) > st.1)) with hb6 | hb6
  ·replace hM := ifT hM hb6
   refine Oy (want := true) hb6 ?_
   refine Olp (.ep (srchC a1.1 a1.2 p2)) ty_agg86 ty_sc86 ?_
   refine Oy (want := true) hb6 ?_
   refine Olg (.agg (Bag_.cells a0)) ty_agg88 ?_
   refine Oy (want := true) hb6 ?_
   refine o_build (cs := [.i a0.c0, .i a0.c1, .i a0.c2, .i a0.c3, .i 0, .i 0]) (by decide) ty_zero90 ty_pl90 rfl ?_
   refine Oy (want := true) hb6 ?_
   obtain ⟨r7, hr7, hM⟩ := bindE hM
   have hndr7 := hS.nd_at (ns := [1]) (M := [(p2, .obj none (mapIs (mpv kvSpot_ st.2)))]) (M' := [(p2, .obj none (mapIs (mpv kvSpot_ r7.2)))]) (.cons rfl .nil) (by decide)
   refine o_hsat (bs := [.ep (srchC a1.1 a1.2 p2), .agg [.i a0.c0, .i a0.c1, .i a0.c2, .i a0.c3, .i 0, .i 0]]) (M := [(p2, .obj none (mapIs (mpv kvSpot_ st.2)))]) (M' := [(p2, .obj none (mapIs (mpv kvSpot_ r7.2)))]) (L' := [(p1, .cells [.i st.1]), (p2, .obj none (mapIs (mpv kvSpot_ r7.2)))]) [1] (.inr (by kernel_rfl)) hS (by decide) rfl rfl ((W_coins_search_buys (p1 := p2) hndr7 hr7).le (.k (.k .nil))) (.cons rfl .nil) rfl (by omega) fun H hS => ?_
   refine Oy (want := true) hb6 ?_
   refine Olp (.i a4) ty_agg3 ty_sc3 ?_
   refine Oy (want := true) hb6 ?_
   refine Oi (.b (r7.1 == a4)) ?_
   refine Pt (.b (r7.1 == a4)) hb6 ?_
   refine Ni ?_
   exact w_goto ((r7.1 == a4), r7.2) (.k (.k (.k .nil))) ⟨(hS.keep [true, true] rfl).up (by omega), hM⟩
  ·replace hM := ifF hM hb6
   refine On (want := true) hb6 ?_
   refine On (want := true) hb6 ?_
   refine On (want := true) hb6 ?_
   refine On (want := true) hb6 ?_
   refine On (want := true) hb6 ?_
   refine On (want := true) hb6 ?_
   refine Pf (.b false) hb6 ?_
   refine Ni ?_
   exact w_goto (false, st.2) (.k (.k (.k .nil))) ⟨(hS.keep [true, true] rfl).up (by omega), hM⟩
theorem W_coins_Wasted {n : Nat} {a0 : Wheel} {a1 : List Int} {r : Int × Int} (hM : coins_Wasted n a0 a1 = some r) : PureSat Try.prog 49 [.agg (Wheel.cells a0), .sl .no 1 (a1.map cI)] (.tup [.i r.1, .i r.2]) := by
 refine pure_of_wp mixed Try.func49 rfl (by decide) Try.ntmps49 (by simp) ?pure fun H0 g hf => ?_
 case pure => exact .tup _ (pl_cons (.v _) (pl_cons (.v _) pl_nil))
 rw [frame0_of]
 change wpA _ _ _ _ (Fr.of [(0, .agg (Wheel.cells a0)), (1, .sl .no 1 (a1.map cI))]) H0 g
 have hS := St.start hf
 refine Sq ?_
 refine Rg 3 ?_
 refine o_box (v := .agg (Wheel.cells a0)) (cs := (Wheel.cells a0)) hS (by decide) rfl rfl (by omega) fun H hS => ?_
 refine Oa (.i 0) ?_
 refine Oa (.i 0) ?_
 refine Ni ?_
 refine w_iceE (L' := []) 0 2 hS rfl rfl rfl fun H hS => ?_
 refine Ws ?_
 refine Sq ?_
 refine Rg 12 ?_
 refine Olg (.agg (Wheel.cells a0)) ty_agg24 ?_
 refine Om (.sl .no 1 (a1.map cI)) ?_
 obtain ⟨r1, hr1, hM⟩ := bindE hM
 rcases bft r1.1.isSome with hb2 | hb2
 ·replace hM := ifT hM hb2
  obtain ⟨x3, hx3, hM⟩ := bindE hM
  refine o_newAt (bs := [.agg (Wheel.cells a0), .sl .no 1 (a1.map cI), .fn (.func 65) [] []]) (.inl rfl) hS (by decide) rfl rfl ((W_coins_seek_some (r := r1.2) (by rw [← hx3]; exact hr1)).le (.k (.k (.k .nil)))) (by omega) fun H hS hU => ?_
  refine Om (.tup [.ep (srchC x3 true (g + 3 + 12 + 19)), .agg (Spot_.cells r1.2.1), .i r1.2.2]) ?_
  refine Ox (.ep (srchC x3 true (g + 3 + 12 + 19))) ?_
  refine Ox (.agg (Spot_.cells r1.2.1)) ?_
  refine Ox (.i r1.2.2) ?_
  refine o_allocU hS hU (by decide) ty_zero86 (by omega) (by omega) (by omega) fun H hS hU => ?_
  refine o_allocU hS hU (by decide) ty_zero90 (by omega) (by omega) (by omega) fun H hS hU => ?_
  refine o_store (v := .ep (srchC x3 true (g + 3 + 12 + 19))) (ns := [.ep (srchC x3 true (g + 3 + 12 + 19))]) (L' := [(g + 3 + 8, .cells [.i 0, .i 0, .i 0, .i 0, .i 0, .i 0]), (g + 3 + 7, .cells [.ep (srchC x3 true (g + 3 + 12 + 19))]), (g + 3 + 12 + 19, .obj none (mapIs (mpv kvSpot_ ([] : List (Spot_ × Int)))))]) 1 hS rfl rfl .no rfl rfl ty_var86 nlb rfl fun H hS => ?_
  refine o_store (v := .agg (Spot_.cells r1.2.1)) (ns := (Spot_.cells r1.2.1)) (L' := [(g + 3 + 8, .cells (Spot_.cells r1.2.1)), (g + 3 + 7, .cells [.ep (srchC x3 true (g + 3 + 12 + 19))]), (g + 3 + 12 + 19, .obj none (mapIs (mpv kvSpot_ ([] : List (Spot_ × Int)))))]) 0 hS rfl rfl .no rfl rfl ty_var90 nlb rfl fun H hS => ?_
  refine Oa (.i r1.2.2) ?_
  refine Ni ?_
  refine w_iceE (L' := [(g + 3 + 8, .cells (Spot_.cells r1.2.1)), (g + 3 + 12 + 19, .obj none (mapIs (mpv kvSpot_ ([] : List (Spot_ × Int)))))]) 1 6 hS rfl rfl rfl fun H hS => ?_
  refine w_iceE (L' := [(g + 3 + 12 + 19, .obj none (mapIs (mpv kvSpot_ ([] : List (Spot_ × Int)))))]) 0 7 hS rfl rfl rfl fun H hS => ?_
  refine Ws ?_
  refine Sq ?_
  refine Sq ?_
  refine Rg 2 ?_
  refine Om (.i r1.2.2) ?_
  refine Oi (.b (r1.2.2 != 0)) ?_
  refine Ni ?_
  refine Ws ?_
  rcases bft (r1.2.2 != 0) with hb4 | hb4
  ·replace hM := ifT hM hb4
   refine Ct hb4 ?_
   refine Sq ?_
   refine Rg 3 ?_
   refine Om (.i r1.2.2) ?_
   refine Oa (.i 0) ?_
   refine Oa (.i r1.2.2) ?_
   refine Ni ?_
   replace hS := hS.keep (L' := []) [false] rfl
   refine Ws ?_
   refine r_ret ?_
   refine r_then_ret ?_
   refine w_end (x := .tup [.i 0, .i r1.2.2]) (f := fun r => .tup [.i r.1, .i r.2]) (.inr rfl) ?_ (.refl _) (Option.some.inj hM) hS
   exact (res_two (res_tmp (x := .i 0) rfl) (res_tmp (x := .i r1.2.2) rfl))
  ·replace hM := ifF hM hb4
   refine Cf hb4 ?_
   refine r_skip ?_
   refine Ws ?_
   refine Sq ?_
   refine Rg 7 ?_
   refine Olp (.ep (srchC x3 true (g + 3 + 12 + 19))) ty_agg86 ty_sc86 ?_
   refine Olg (.agg (Spot_.cells r1.2.1)) ty_agg90 ?_
   obtain ⟨r5, hr5, hM⟩ := bindE hM
   have hndr5 := hS.nd_at (ns := [0]) (M := [(g + 3 + 12 + 19, .obj none (mapIs (mpv kvSpot_ ([] : List (Spot_ × Int)))))]) (M' := [(g + 3 + 12 + 19, .obj none (mapIs (mpv kvSpot_ r5.2)))]) (.cons rfl .nil) (by decide)
   refine o_hsat (bs := [.ep (srchC x3 true (g + 3 + 12 + 19)), .agg (Spot_.cells r1.2.1)]) (M := [(g + 3 + 12 + 19, .obj none (mapIs (mpv kvSpot_ ([] : List (Spot_ × Int)))))]) (M' := [(g + 3 + 12 + 19, .obj none (mapIs (mpv kvSpot_ r5.2)))]) (L' := [(g + 3 + 12 + 19, .obj none (mapIs (mpv kvSpot_ r5.2)))]) [0] (.inl rfl) hS (by decide) rfl rfl ((W_coins_search_buys (p1 := g + 3 + 12 + 19) hndr5 hr5).le (.k (.k .nil))) (.cons rfl .nil) rfl (by omega) fun H hS => ?_
   refine o_alloc hS (by decide) ty_zero3 (by omega) fun H hS => ?_
   refine o_alloc hS (by decide) ty_zero3 (by omega) fun H hS => ?_
   refine o_store (v := .i 0) (ns := [.i 0]) (L' := [(g + 3 + 12 + 19 + 1 + 2 + 4, .cells [.i 0]), (g + 3 + 12 + 19 + 1 + 2 + 3, .cells [.i 0]), (g + 3 + 12 + 19, .obj none (mapIs (mpv kvSpot_ r5.2)))]) 1 hS rfl rfl .no rfl rfl ty_var3 nlb rfl fun H hS => ?_
   refine o_store (v := .i r5.1) (ns := [.i r5.1]) (L' := [(g + 3 + 12 + 19 + 1 + 2 + 4, .cells [.i r5.1]), (g + 3 + 12 + 19 + 1 + 2 + 3, .cells [.i 0]), (g + 3 + 12 + 19, .obj none (mapIs (mpv kvSpot_ r5.2)))]) 0 hS rfl rfl .no rfl rfl ty_var3 nlb rfl fun H hS => ?_
   refine Ni ?_
   refine w_iceE (L' := [(g + 3 + 12 + 19 + 1 + 2 + 3, .cells [.i 0]), (g + 3 + 12 + 19, .obj none (mapIs (mpv kvSpot_ r5.2)))]) 0 10 hS rfl rfl rfl fun H hS => ?_
   refine Ws ?_
   refine Sq ?_
   refine Rg 4 ?_
   refine Of ((Spot_.cells r1.2.1)) ty_fo90_0 ?_
   refine Olg (.agg (Bag_.cells r1.2.1.left)) ty_agg88 ?_
   refine o_makeFunc (first := []) (cap := [.ep [.ep (srchC x3 true (g + 3 + 12 + 19))], .ep (Spot_.cells r1.2.1), .ptr (g + 3 + 12 + 19 + 1 + 2 + 3) 0, .ep [.i r5.1]]) (by decide) rfl rfl ?_
   obtain ⟨r6, hr6, hM⟩ := bindE hM
   have hndr6 := hS.nd_at (ns := [0, 1]) (M := [(g + 3 + 12 + 19 + 1 + 2 + 3, .cells [.i 0]), (g + 3 + 12 + 19, .obj none (mapIs (mpv kvSpot_ r5.2)))]) (M' := [(g + 3 + 12 + 19 + 1 + 2 + 3, .cells [.i r6.2.1]), (g + 3 + 12 + 19, .obj none (mapIs (mpv kvSpot_ r6.2.2)))]) (.cons rfl (.cons rfl .nil)) (by decide)
   have hncr6 := hS.nd_at (ns := [0, 1]) (M := [(g + 3 + 12 + 19 + 1 + 2 + 3, .cells [.i 0]), (g + 3 + 12 + 19, .obj none (mapIs (mpv kvSpot_ r5.2)))]) (M' := [(g + 3 + 12 + 19 + 1 + 2 + 3, .cells [.i r6.2.1]), (g + 3 + 12 + 19, .obj none (mapIs (mpv kvSpot_ r6.2.2)))]) (.cons rfl (.cons rfl .nil)) (by decide)
   refine o_hsat (bs := [.agg (Bag_.cells r1.2.1.left), .i 0, .fn (.func 88) [] [.ep [.ep (srchC x3 true (g + 3 + 12 + 19))], .ep (Spot_.cells r1.2.1), .ptr (g + 3 + 12 + 19 + 1 + 2 + 3) 0, .ep [.i r5.1]]]) (M := [(g + 3 + 12 + 19 + 1 + 2 + 3, .cells [.i 0]), (g + 3 + 12 + 19, .obj none (mapIs (mpv kvSpot_ r5.2)))]) (M' := [(g + 3 + 12 + 19 + 1 + 2 + 3, .cells [.i r6.2.1]), (g + 3 + 12 + 19, .obj none (mapIs (mpv kvSpot_ r6.2.2)))]) (L' := [(g + 3 + 12 + 19 + 1 + 2 + 3, .cells [.i r6.2.1]), (g + 3 + 12 + 19, .obj none (mapIs (mpv kvSpot_ r6.2.2)))]) [0, 1] (.inl rfl) hS (by decide) rfl rfl ((W_coins_parts (Lo := (fun (s : Int × (List (Spot_ × Int))) => [(g + 3 + 12 + 19 + 1 + 2 + 3, .cells [.i s.1]), (g + 3 + 12 + 19, .obj none (mapIs (mpv kvSpot_ s.2)))]))  (fun _ _ => (kl_cells (kl_obj kl_nil))) (fun _ => hndr6) (fun s => (inb_st (ic_cells (ci_cons (.inl (.inl (.v _))) ci_nil) (ic_obj ic_nil)) inb_nil)) (aF := (fun (x0 : Bag_) s => coins_Wasted_c1 n x0 (x3, true) r1.2.1 r5.1 s)) (fun s H hH => (.fn _ _ _ ai_nil (ai_cons (.ep _ (ai_cons (.ep _ (ai_cons (show Go.AM.Pure _ from .v _).inH (ai_cons (show Go.AM.Pure _ from .sl _ _ (pures_map (fun x => (pl_cons (.v _) pl_nil)))).inH (ai_cons (show Go.AM.Pure _ from .sl _ _ (pures_map (fun x => (pl_cons (.v _) pl_nil)))).inH (ai_cons (show Go.AM.Pure _ from pure_fnB _).inH (ai_cons (in_mp hH 1 rfl) ai_nil)))))) ai_nil)) (ai_cons (.ep _ (ai_cons (show Go.AM.Pure _ from .v _).inH (ai_cons (show Go.AM.Pure _ from .v _).inH (ai_cons (show Go.AM.Pure _ from .v _).inH (ai_cons (show Go.AM.Pure _ from .v _).inH (ai_cons (show Go.AM.Pure _ from .v _).inH (ai_cons (show Go.AM.Pure _ from .v _).inH ai_nil))))))) (ai_cons (in_ptr hH 0 rfl) (ai_cons (.ep _ (ai_cons (show Go.AM.Pure _ from .v _).inH ai_nil)) ai_nil)))))) rfl (fun h => csat_hv (W_coins_Wasted_c1 (p1 := g + 3 + 12 + 19 + 1 + 2 + 3)  (p2 := g + 3 + 12 + 19)  hncr6 h)) hr6).le (.k (.k (.k .nil)))) (.cons rfl (.cons rfl .nil)) rfl (by omega) fun H hS => ?_
   refine Ni ?_
   replace hS := hS.keep (L' := [(g + 3 + 12 + 19 + 1 + 2 + 3, .cells [.i r6.2.1])]) [true, false] rfl
   refine Ws ?_
   refine Sq ?_
   refine Rg 3 ?_
   refine o_load (v := .i r6.2.1) 0 hS (by decide) rfl rfl .no (po ty_agg3 ty_sc3) ?_
   refine Oa (.i r6.2.1) ?_
   refine Oa (.i 0) ?_
   refine Ni ?_
   replace hS := hS.keep (L' := []) [false] rfl
   refine Ws ?_
   refine r_ret ?_
   refine w_end (x := .tup [.i r6.2.1, .i 0]) (f := fun r => .tup [.i r.1, .i r.2]) (.inr rfl) ?_ (.refl _) (Option.some.inj hM) hS
   exact (res_two (res_tmp (x := .i r6.2.1) rfl) (res_tmp (x := .i 0) rfl))
 ·replace hM := ifF hM hb2
  have hb2' : r1.1 = none := by rw [Option.isSome_eq_false_iff, Option.isNone_iff_eq_none] at hb2; exact hb2
  refine o_call (bs := [.agg (Wheel.cells a0), .sl .no 1 (a1.map cI), .fn (.func 65) [] []]) (by decide) rfl rfl ((W_coins_seek_none (r := r1.2) (by rw [← hb2']; exact hr1)).le (.k (.k (.k .nil)))) ?_
  refine Om (.tup [.v (.pointer none), .agg (Spot_.cells r1.2.1), .i r1.2.2]) ?_
  refine Ox (.v (.pointer none)) ?_
  refine Ox (.agg (Spot_.cells r1.2.1)) ?_
  refine Ox (.i r1.2.2) ?_
  refine o_alloc hS (by decide) ty_zero86 (by omega) fun H hS => ?_
  refine o_alloc hS (by decide) ty_zero90 (by omega) fun H hS => ?_
  refine o_store (v := .v (.pointer none)) (ns := [.v (.pointer none)]) (L' := [(g + 3 + 8, .cells [.i 0, .i 0, .i 0, .i 0, .i 0, .i 0]), (g + 3 + 7, .cells [.v (.pointer none)])]) 1 hS rfl rfl .no rfl rfl ty_var86 nlb rfl fun H hS => ?_
  refine o_store (v := .agg (Spot_.cells r1.2.1)) (ns := (Spot_.cells r1.2.1)) (L' := [(g + 3 + 8, .cells (Spot_.cells r1.2.1)), (g + 3 + 7, .cells [.v (.pointer none)])]) 0 hS rfl rfl .no rfl rfl ty_var90 nlb rfl fun H hS => ?_
  refine Oa (.i r1.2.2) ?_
  refine Ni ?_
  refine w_iceE (L' := [(g + 3 + 8, .cells (Spot_.cells r1.2.1))]) 1 6 hS rfl rfl rfl fun H hS => ?_
  refine w_iceE (L' := []) 0 7 hS rfl rfl rfl fun H hS => ?_
  refine Ws ?_
  refine Sq ?_
  refine Sq ?_
  refine Rg 2 ?_
  refine Om (.i r1.2.2) ?_
  refine Oi (.b (r1.2.2 != 0)) ?_
  refine Ni ?_
  refine Ws ?_
  rcases bft (r1.2.2 != 0) with hb7 | hb7
  ·replace hM := ifT hM hb7
   refine Ct hb7 ?_
   refine Sq ?_
   refine Rg 3 ?_
   refine Om (.i r1.2.2) ?_
   refine Oa (.i 0) ?_
   refine Oa (.i r1.2.2) ?_
   refine Ni ?_
   refine Ws ?_
   refine r_ret ?_
   refine r_then_ret ?_
   refine w_end (x := .tup [.i 0, .i r1.2.2]) (f := fun r => .tup [.i r.1, .i r.2]) (.inr rfl) ?_ (.refl _) (Option.some.inj hM) hS
   exact (res_two (res_tmp (x := .i 0) rfl) (res_tmp (x := .i r1.2.2) rfl))
  ·replace hM := ifF hM hb7
   refine Cf hb7 ?_
   refine r_skip ?_
   refine Ws ?_
   refine Sq ?_
   refine Rg 7 ?_
   refine Olp (.v (.pointer none)) ty_agg86 ty_sc86 ?_
   refine Olg (.agg (Spot_.cells r1.2.1)) ty_agg90 ?_
   exact nomatch (show none = some _ from hM)
theorem W_ref01_less {a0 : List Int} {a1 : Int} {r : (List Int)} (hM : ref01_less a0 a1 = some r) : PureSat Try.prog 109 [.sl .no 1 (a0.map cI), .i a1] (.sl .no 1 (r.map cI)) := by
 refine pure_of_wp mixed Try.func109 rfl (by decide) Try.ntmps109 (by simp) ?pure fun H0 g hf => ?_
 case pure => exact .sl _ _ (pures_map (fun x => (pl_cons (.v _) pl_nil)))
 rw [frame0_of]
 change wpA _ _ _ _ (Fr.of [(0, .sl .no 1 (a0.map cI)), (1, .i a1)]) H0 g
 have hS := St.start hf
 refine Sq ?_
 refine Rg 1 ?_
 refine Oa (.sl .nil 0 []) ?_
 refine Ni ?_
 refine Ws ?_
 refine Sq ?_
 refine Rg 4 ?_
 refine o_litC (es := []) (by decide) ty_es22 ty_el22 rfl ty_ef22 rfl (by decide) ?_
 refine Om (.sl .no 1 (a0.map cI)) ?_
 obtain ⟨l1, hl1, hM⟩ := bindE hM
 refine o_cloneM (ys := a0) (zs := l1) (f := cI) hS (by decide) rfl rfl ty_es22 ty_ef22 (fun _ => rfl) hl1 (by omega) fun H hS => ?_
 refine Oa (msn (g + 1 + 2) 1 l1.length) ?_
 refine Ni ?_
 refine Ws ?_
 refine Sq ?_
 refine Rg 7 ?_
 refine Om (msn (g + 1 + 2) 1 l1.length) ?_
 refine Om (.i a1) ?_
 obtain ⟨x2, hx2, hM⟩ := bindE hM
 refine o_indexM (xs := l1) (f := cI) (z := a1) (u := x2) hS (by decide) rfl rfl ty_es22 hx2 ?_
 refine o_loadM (xs := l1) (z := a1) (u := x2) hS (by decide) rfl hx2 .no ty_agg3 ty_sc3 ?_
 refine Oi (.i (w64 (x2 - 1))) ?_
 obtain ⟨x3, hx3, hM⟩ := bindE hM
 refine o_indexM (xs := l1) (f := cI) (z := a1) (u := x3) hS (by decide) rfl rfl ty_es22 hx3 ?_
 refine o_storeM (xs := l1) (z := a1) (u := x3) (v := (w64 (x2 - 1))) hS rfl hx3 .no rfl ty_var3 fun H hS => ?_
 refine Ni ?_
 refine Ws ?_
 refine Sq ?_
 refine Rg 2 ?_
 refine Om (msn (g + 1 + 2) 1 l1.length) ?_
 refine Oa (msn (g + 1 + 2) 1 l1.length) ?_
 refine Ni ?_
 refine w_iceT (t := 4) (k := 1) (es := (l1.set (Int.toNat a1) (w64 (x2 - 1))).map cI) hS.thaw (by rw [msl_msn hS.len]; rfl) (by decide) (each_map (fun _ => rfl)) (fl_map (fun x => (fl_cons fl_nil))) fun H hS => ?_
 refine Ws ?_
 refine r_ret ?_
 refine w_end (x := .sl .no 1 ((l1.set (Int.toNat a1) (w64 (x2 - 1))).map cI)) (f := fun r => .sl .no 1 (r.map cI)) (.inr rfl) ?_ (.refl _) (Option.some.inj hM) hS
 exact (res_one (res_tmp (x := .sl .no 1 ((l1.set (Int.toNat a1) (w64 (x2 - 1))).map cI)) rfl))
end Go.Proofs.Ytapcibbbmeomkaa
