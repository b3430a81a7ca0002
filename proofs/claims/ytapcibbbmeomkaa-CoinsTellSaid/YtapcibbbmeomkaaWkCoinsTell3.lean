/-
  The code returns what the functions say (printed by gen.py).
  Conditions: none.
-/
import Derived.Test.YtapcibbbmeomkaaWkCoinsTell2
import Derived.Test.YtapcibbbmeomkaaSh
set_option linter.all false
namespace Go.Proofs.Ytapcibbbmeomkaa
open Go Go.AM Go.Law
set_option linter.unusedVariables false
set_option maxRecDepth 4000
set_option maxHeartbeats 4000000
theorem W_ref01_Rising {n : Nat} {a0 : List Int} {a1 : Int} {a2 : Int} {r : Bool} (hM : ref01_Rising n a0 a1 a2 = some r) : PureSat Try.prog 73 [.sl .no 1 (a0.map cI), .i a1, .i a2] (.b r) := by
 refine pure_of_wp mixed Try.func73 rfl (by decide) Try.ntmps73 (by simp) ?pure fun H0 g hf => ?_
 case pure => exact .v _
 rw [frame0_of]
 change wpA _ _ _ _ (Fr.of [(0, .sl .no 1 (a0.map cI)), (1, .i a1), (2, .i a2)]) H0 g
 have hS := St.start hf
 refine Sq ?_
 refine Rg 1 ?_
 refine Oa (.b false) ?_
 refine Ni ?_
 refine Ws ?_
 refine w_join (J := Unit) (fun j => []) (fun j H' g' => St (· < g) H0 [] H' g' ∧ ref01_Rising_j1 = some r) ?_ ?_
 ·rintro _ H g1 ⟨hS, hM⟩
  change wpA _ _ _ _ (Fr.of []) _ _
  replace hS : St (· < g) H0 [] H g1 := hS
  replace hM : ref01_Rising_j1 = some r := hM
  refine Sq ?_
  refine Rg 1 ?_
  refine Oa (.b true) ?_
  refine Ni ?_
  refine Ws ?_
  refine r_ret ?_
  refine w_end (x := .b true) (f := fun r => .b r) (.inr rfl) ?_ (.refl _) (Option.some.inj hM) hS
  exact (res_one (res_tmp (x := .b true) rfl))
 ·refine Sq ?_
  refine Rg 1 ?_
  refine Oa (.i 0) ?_
  refine Ni ?_
  refine Ws ?_
  refine r_block ?_
  refine w_loop (V := Int) (fun v => [(0, .sl .no 1 (a0.map cI)), (1, .i a1), (2, .i a2), (7, .i v)]) (fun v m2 H' g' => St (· < g) H0 [] H' g' ∧ ref01_Rising_l1 a0 a1 a2 m2 v = some r) (n := n) 0 (.k (.k (.k (.k .nil)))) ⟨(hS.keep [] rfl).up (by omega), hM⟩ ?_
  rintro v1 m2 H g2 ⟨hS, hM⟩
  obtain _ | m2 := m2
  ·exact nomatch (show none = some _ from hM)
  change wpA _ _ _ _ (Fr.of [(0, .sl .no 1 (a0.map cI)), (1, .i a1), (2, .i a2), (7, .i v1)]) _ _
  replace hS : St (· < g) H0 [] H g2 := hS
  replace hM : ref01_Rising_l1_b a0 a1 a2 (ref01_Rising_l1 a0 a1 a2 m2) v1 = some r := hM
  refine Sq ?_
  refine Sq ?_
  refine Rg 4 ?_
  refine Om (.i v1) ?_
  refine Om (.sl .no 1 (a0.map cI)) ?_
  refine o_len (n := a0.length) (by decide) rfl (List.length_map _) ty_isl22 ?_
  refine Oi (.b (decide (v1 < (a0.length : Int)))) ?_
  refine Ni ?_
  refine Ws ?_
  rcases bft (decide (v1 < (a0.length : Int))) with hb2 | hb2
  ·replace hM := ifT hM hb2
   refine Ct hb2 ?_
   refine r_skip ?_
   refine Ws ?_
   refine Sq ?_
   refine r_block ?_
   refine w_join (J := Bool) (fun j => [(0, .sl .no 1 (a0.map cI)), (1, .i a1), (2, .i a2), (7, .i v1), (37, .b j)]) (fun j H' g' => St (· < g) H0 [] H' g' ∧ ref01_Rising_j2 (ref01_Rising_l1 a0 a1 a2 m2) v1 j = some r) ?_ ?_
   ·rintro v3 H g3 ⟨hS, hM⟩
    change wpA _ _ _ _ (Fr.of [(0, .sl .no 1 (a0.map cI)), (1, .i a1), (2, .i a2), (7, .i v1), (37, .b v3)]) _ _
    replace hS : St (· < g) H0 [] H g3 := hS
    replace hM : ref01_Rising_j2 (ref01_Rising_l1 a0 a1 a2 m2) v1 v3 = some r := hM
    rcases bft v3 with hb4 | hb4
    ·replace hM := ifT hM hb4
     refine Ct hb4 ?_
     refine Sq ?_
     refine Rg 1 ?_
     refine Oa (.b false) ?_
     refine Ni ?_
     refine Ws ?_
     refine r_ret ?_
     refine r_blk_ret ?_
     refine r_then_ret ?_
     refine w_round_ret ?_
     refine r_blk_ret ?_
     refine w_goto_ret ?_
     refine w_end (x := .b false) (f := fun r => .b r) (.inr rfl) ?_ (.refl _) (Option.some.inj hM) hS
     exact (res_one (res_tmp (x := .b false) rfl))
    ·replace hM := ifF hM hb4
     refine Cf hb4 ?_
     refine r_skip ?_
     refine r_blk_normal ?_
     refine Ws ?_
     refine Rg 3 ?_
     refine Om (.i v1) ?_
     refine Oi (.i (w64 (v1 + 1))) ?_
     refine Oa (.i (w64 (v1 + 1))) ?_
     refine Ni ?_
     exact w_round (w64 (v1 + 1)) (Nat.lt_succ_self _) (.k (.k (.k (.k .nil)))) ⟨(hS.keep [] rfl).up (by omega), hM⟩
   ·have hS0 := hS
    refine r_draw (n := 24) rfl (by kernel_rfl) ?_
    refine Om (.sl .no 1 (a0.map cI)) ?_
    refine Om (.i v1) ?_
    obtain ⟨x5, hx5, hM⟩ := bindE hM
    refine o_index (xs := a0) (f := cI) (z := v1) (u := x5) (by decide) rfl rfl ty_es22 hx5 ?_
    refine Olp (.i x5) ty_agg3 ty_sc3 ?_
    refine Om (.i a1) ?_
    refine Om (.i a2) ?_
    obtain ⟨r6, hr6, hM⟩ := bindE hM
    refine o_call (bs := [.i x5, .i a1, .i a2]) (by decide) rfl rfl ((W_ref01_Within hr6).le (.k (.k (.k .nil)))) ?_
    refine o_not (e := r6) (by decide) rfl ?_
    refine Om (.b (!r6)) ?_
    rcases bft (!r6) with hb7 | hb7
    ·replace hM := ifT hM hb7
     refine On (want := false) hb7 ?_
     refine On (want := false) hb7 ?_
     refine On (want := false) hb7 ?_
     refine o_guardU (j := 11) (by decide) rfl ?_
     refine o_guardU (j := 11) (by decide) rfl ?_
     refine o_guardU (j := 11) (by decide) rfl ?_
     refine o_guardU (j := 11) (by decide) rfl ?_
     refine o_guardU (j := 11) (by decide) rfl ?_
     refine o_guardU (j := 11) (by decide) rfl ?_
     refine o_guardU (j := 11) (by decide) rfl ?_
     refine o_guardU (j := 11) (by decide) rfl ?_
     refine o_guardU (j := 11) (by decide) rfl ?_
     refine o_guardU (j := 11) (by decide) rfl ?_
     refine On (want := false) hb7 ?_
     refine Pt (.b true) hb7 ?_
     refine Ni ?_
     exact w_goto true (.k (.k (.k (.k (.k .nil))))) ⟨(hS.keep [] rfl).up (by omega), hM⟩
    ·replace hM := ifF hM hb7
     refine Oy (want := false) hb7 ?_
     refine Om (.i v1) ?_
     refine Oy (want := false) hb7 ?_
     refine Oi (.b (decide (v1 > 0))) ?_
     refine Oy (want := false) hb7 ?_
     refine Om (.b (decide (v1 > 0))) ?_
     rcases bft (decide (v1 > 0)) with hb8 | hb8
     ·replace hM := ifT hM hb8
      refine Oy (want := true) hb8 ?_
      refine Om (.sl .no 1 (a0.map cI)) ?_
      refine Oy (want := true) hb8 ?_
      refine Om (.i v1) ?_
      refine Oy (want := true) hb8 ?_
      obtain ⟨x9, hx9, hM⟩ := bindE hM
      refine o_index (xs := a0) (f := cI) (z := v1) (u := x9) (by decide) rfl rfl ty_es22 hx9 ?_
      refine Oy (want := true) hb8 ?_
      refine Olp (.i x9) ty_agg3 ty_sc3 ?_
      refine Oy (want := true) hb8 ?_
      refine Om (.sl .no 1 (a0.map cI)) ?_
      refine Oy (want := true) hb8 ?_
      refine Om (.i v1) ?_
      refine Oy (want := true) hb8 ?_
      refine Oi (.i (w64 (v1 - 1))) ?_
      refine Oy (want := true) hb8 ?_
      obtain ⟨x10, hx10, hM⟩ := bindE hM
      refine o_index (xs := a0) (f := cI) (z := (w64 (v1 - 1))) (u := x10) (by decide) rfl rfl ty_es22 hx10 ?_
      refine Oy (want := true) hb8 ?_
      refine Olp (.i x10) ty_agg3 ty_sc3 ?_
      refine Oy (want := true) hb8 ?_
      refine Oi (.b (decide (x9 ≤ x10))) ?_
      refine Oy (want := false) hb7 ?_
      refine Pt (.b (decide (x9 ≤ x10))) hb8 ?_
      refine Pf (.b (decide (x9 ≤ x10))) hb7 ?_
      refine Ni ?_
      exact w_goto (decide (x9 ≤ x10)) (.k (.k (.k (.k (.k .nil))))) ⟨(hS.keep [] rfl).up (by omega), hM⟩
     ·replace hM := ifF hM hb8
      refine On (want := true) hb8 ?_
      refine On (want := true) hb8 ?_
      refine On (want := true) hb8 ?_
      refine On (want := true) hb8 ?_
      refine On (want := true) hb8 ?_
      refine On (want := true) hb8 ?_
      refine On (want := true) hb8 ?_
      refine On (want := true) hb8 ?_
      refine On (want := true) hb8 ?_
      refine On (want := true) hb8 ?_
      refine Oy (want := false) hb7 ?_
      refine Pf (.b false) hb8 ?_
      refine Pf (.b false) hb7 ?_
      refine Ni ?_
      exact w_goto false (.k (.k (.k (.k (.k .nil))))) ⟨(hS.keep [] rfl).up (by omega), hM⟩
  ·replace hM := ifF hM hb2
   refine Cf hb2 ?_
   refine r_exit ?_
   refine r_then_exit ?_
   refine w_round_exit ?_
   refine r_blk_exit ?_
   exact w_goto () .nil ⟨(hS.keep [] rfl).up (by omega), hM⟩
theorem W_ref01_Check {n : Nat} {a0 : Wheel} {r : Int} (hM : ref01_Check n a0 = some r) : PureSat Try.prog 39 [.agg (Wheel.cells a0)] (.i r) := by
 refine pure_of_wp mixed Try.func39 rfl (by decide) Try.ntmps39 (by simp) ?pure fun H0 g hf => ?_
 case pure => exact .v _
 rw [frame0_of]
 change wpA _ _ _ _ (Fr.of [(0, .agg (Wheel.cells a0))]) H0 g
 have hS := St.start hf
 refine Sq ?_
 refine Rg 2 ?_
 refine o_box (v := .agg (Wheel.cells a0)) (cs := (Wheel.cells a0)) hS (by decide) rfl rfl (by omega) fun H hS => ?_
 refine Oa (.i 0) ?_
 refine Ni ?_
 refine w_iceE (L' := []) 0 1 hS rfl rfl rfl fun H hS => ?_
 refine Ws ?_
 refine Sq ?_
 refine w_join (J := Bool) (fun j => [(32, .b j)]) (fun j H' g' => St (· < g) H0 [] H' g' ∧ ref01_Check_j1 j = some r) ?_ ?_
 ·rintro v1 H g1 ⟨hS, hM⟩
  change wpA _ _ _ _ (Fr.of [(32, .b v1)]) _ _
  replace hS : St (· < g) H0 [] H g1 := hS
  replace hM : ref01_Check_j1 v1 = some r := hM
  rcases bft v1 with hb2 | hb2
  ·replace hM := ifT hM hb2
   refine Ct hb2 ?_
   refine Sq ?_
   refine Rg 1 ?_
   refine Oa (.i 10) ?_
   refine Ni ?_
   refine Ws ?_
   refine r_ret ?_
   refine r_then_ret ?_
   refine w_end (x := .i 10) (f := fun r => .i r) (.inr rfl) ?_ (.refl _) (Option.some.inj hM) hS
   exact (res_one (res_tmp (x := .i 10) rfl))
  ·replace hM := ifF hM hb2
   refine Cf hb2 ?_
   refine r_skip ?_
   refine Ws ?_
   refine Sq ?_
   refine Rg 1 ?_
   refine Oa (.i 0) ?_
   refine Ni ?_
   refine Ws ?_
   refine r_ret ?_
   refine w_end (x := .i 0) (f := fun r => .i r) (.inr rfl) ?_ (.refl _) (Option.some.inj hM) hS
   exact (res_one (res_tmp (x := .i 0) rfl))
 ·refine Rg 30 ?_
  refine Of ((Wheel.cells a0)) ty_fo24_0 ?_
  refine Olp (.i a0.Round) ty_agg3 ty_sc3 ?_
  obtain ⟨r3, hr3, hM⟩ := bindE hM
  refine o_call (bs := [.i a0.Round, .i 1, .i 200]) (by decide) rfl rfl ((W_ref01_Within hr3).le (.k (.k (.k .nil)))) ?_
  refine o_not (e := r3) (by decide) rfl ?_
  refine Om (.b (!r3)) ?_
  rcases bft (!r3) with hb4 | hb4
  ·replace hM := ifT hM hb4
   refine On (want := false) hb4 ?_
   refine On (want := false) hb4 ?_
   refine On (want := false) hb4 ?_
   refine On (want := false) hb4 ?_
   refine Pt (.b true) hb4 ?_
   refine Om (.b true) ?_
   refine Og ?_
   refine Og ?_
   refine Og ?_
   refine Og ?_
   refine Og ?_
   refine Og ?_
   refine o_pickT (v := .b true) (e := true) (by decide) rfl rfl rfl ?_
   refine Om (.b true) ?_
   refine Og ?_
   refine Og ?_
   refine Og ?_
   refine Og ?_
   refine o_pickT (v := .b true) (e := true) (by decide) rfl rfl rfl ?_
   refine Om (.b true) ?_
   refine Og ?_
   refine Og ?_
   refine Og ?_
   refine Og ?_
   refine o_pickT (v := .b true) (e := true) (by decide) rfl rfl rfl ?_
   refine Ni ?_
   exact w_goto true (.k .nil) ⟨(hS.keep [] rfl).up (by omega), hM⟩
  ·replace hM := ifF hM hb4
   refine Oy (want := false) hb4 ?_
   refine Of ((Wheel.cells a0)) ty_fo24_1 ?_
   refine Oy (want := false) hb4 ?_
   refine Olp (.sl .no 1 (a0.Notches.map cI)) ty_agg22 ty_sc22 ?_
   refine Oy (want := false) hb4 ?_
   refine o_len (n := a0.Notches.length) (by decide) rfl (List.length_map _) ty_isl22 ?_
   refine Oy (want := false) hb4 ?_
   refine Oi (.b (decide ((a0.Notches.length : Int) > 12))) ?_
   refine Pf (.b (decide ((a0.Notches.length : Int) > 12))) hb4 ?_
   refine Om (.b (decide ((a0.Notches.length : Int) > 12))) ?_
   rcases bft (decide ((a0.Notches.length : Int) > 12)) with hb5 | hb5
   ·replace hM := ifT hM hb5
    refine On (want := false) hb5 ?_
    refine On (want := false) hb5 ?_
    refine On (want := false) hb5 ?_
    refine On (want := false) hb5 ?_
    refine On (want := false) hb5 ?_
    refine On (want := false) hb5 ?_
    refine Pt (.b true) hb5 ?_
    refine Om (.b true) ?_
    refine Og ?_
    refine Og ?_
    refine Og ?_
    refine Og ?_
    refine o_pickT (v := .b true) (e := true) (by decide) rfl rfl rfl ?_
    refine Om (.b true) ?_
    refine Og ?_
    refine Og ?_
    refine Og ?_
    refine Og ?_
    refine o_pickT (v := .b true) (e := true) (by decide) rfl rfl rfl ?_
    refine Ni ?_
    exact w_goto true (.k .nil) ⟨(hS.keep [] rfl).up (by omega), hM⟩
   ·replace hM := ifF hM hb5
    refine Oy (want := false) hb5 ?_
    refine Of ((Wheel.cells a0)) ty_fo24_1 ?_
    refine Oy (want := false) hb5 ?_
    refine Olp (.sl .no 1 (a0.Notches.map cI)) ty_agg22 ty_sc22 ?_
    refine Oy (want := false) hb5 ?_
    refine Of ((Wheel.cells a0)) ty_fo24_0 ?_
    refine Oy (want := false) hb5 ?_
    refine Olp (.i a0.Round) ty_agg3 ty_sc3 ?_
    refine Oy (want := false) hb5 ?_
    obtain ⟨r6, hr6, hM⟩ := bindE hM
    refine o_call (bs := [.sl .no 1 (a0.Notches.map cI), .i 1, .i a0.Round]) (by decide) rfl rfl ((W_ref01_Rising hr6).le (.k (.k (.k .nil)))) ?_
    refine Oy (want := false) hb5 ?_
    refine o_not (e := r6) (by decide) rfl ?_
    refine Pf (.b (!r6)) hb5 ?_
    refine Om (.b (!r6)) ?_
    rcases bft (!r6) with hb7 | hb7
    ·replace hM := ifT hM hb7
     refine On (want := false) hb7 ?_
     refine On (want := false) hb7 ?_
     refine On (want := false) hb7 ?_
     refine On (want := false) hb7 ?_
     refine Pt (.b true) hb7 ?_
     refine Om (.b true) ?_
     refine Og ?_
     refine Og ?_
     refine Og ?_
     refine Og ?_
     refine o_pickT (v := .b true) (e := true) (by decide) rfl rfl rfl ?_
     refine Ni ?_
     exact w_goto true (.k .nil) ⟨(hS.keep [] rfl).up (by omega), hM⟩
    ·replace hM := ifF hM hb7
     refine Oy (want := false) hb7 ?_
     refine Of ((Wheel.cells a0)) ty_fo24_2 ?_
     refine Oy (want := false) hb7 ?_
     refine Olp (.sl .no 1 (a0.Coins.map cI)) ty_agg22 ty_sc22 ?_
     refine Oy (want := false) hb7 ?_
     refine o_len (n := a0.Coins.length) (by decide) rfl (List.length_map _) ty_isl22 ?_
     refine Oy (want := false) hb7 ?_
     refine Oi (.b (decide ((a0.Coins.length : Int) > 4))) ?_
     refine Pf (.b (decide ((a0.Coins.length : Int) > 4))) hb7 ?_
     refine Om (.b (decide ((a0.Coins.length : Int) > 4))) ?_
     rcases bft (decide ((a0.Coins.length : Int) > 4)) with hb8 | hb8
     ·replace hM := ifT hM hb8
      refine On (want := false) hb8 ?_
      refine On (want := false) hb8 ?_
      refine On (want := false) hb8 ?_
      refine On (want := false) hb8 ?_
      refine Pt (.b true) hb8 ?_
      refine Ni ?_
      exact w_goto true (.k .nil) ⟨(hS.keep [] rfl).up (by omega), hM⟩
     ·replace hM := ifF hM hb8
      refine Oy (want := false) hb8 ?_
      refine Of ((Wheel.cells a0)) ty_fo24_2 ?_
      refine Oy (want := false) hb8 ?_
      refine Olp (.sl .no 1 (a0.Coins.map cI)) ty_agg22 ty_sc22 ?_
      refine Oy (want := false) hb8 ?_
      obtain ⟨r9, hr9, hM⟩ := bindE hM
      refine o_call (bs := [.sl .no 1 (a0.Coins.map cI), .i 1, .i 100]) (by decide) rfl rfl ((W_ref01_Rising hr9).le (.k (.k (.k .nil)))) ?_
      refine Oy (want := false) hb8 ?_
      refine o_not (e := r9) (by decide) rfl ?_
      refine Pf (.b (!r9)) hb8 ?_
      refine Ni ?_
      exact w_goto (!r9) (.k .nil) ⟨(hS.keep [] rfl).up (by omega), hM⟩
theorem W_ref01_In {n : Nat} {a0 : List Int} {a1 : Int} {r : Bool} (hM : ref01_In n a0 a1 = some r) : PureSat Try.prog 27 [.sl .no 1 (a0.map cI), .i a1] (.b r) := by
 refine pure_of_wp mixed Try.func27 rfl (by decide) Try.ntmps27 (by simp) ?pure fun H0 g hf => ?_
 case pure => exact .v _
 rw [frame0_of]
 change wpA _ _ _ _ (Fr.of [(0, .sl .no 1 (a0.map cI)), (1, .i a1)]) H0 g
 have hS := St.start hf
 refine Sq ?_
 refine Rg 1 ?_
 refine Oa (.b false) ?_
 refine Ni ?_
 refine Ws ?_
 refine w_join (J := Unit) (fun j => []) (fun j H' g' => St (· < g) H0 [] H' g' ∧ ref01_In_j1 = some r) ?_ ?_
 ·rintro _ H g1 ⟨hS, hM⟩
  change wpA _ _ _ _ (Fr.of []) _ _
  replace hS : St (· < g) H0 [] H g1 := hS
  replace hM : ref01_In_j1 = some r := hM
  refine Sq ?_
  refine Rg 1 ?_
  refine Oa (.b false) ?_
  refine Ni ?_
  refine Ws ?_
  refine r_ret ?_
  refine w_end (x := .b false) (f := fun r => .b r) (.inr rfl) ?_ (.refl _) (Option.some.inj hM) hS
  exact (res_one (res_tmp (x := .b false) rfl))
 ·refine Sq ?_
  refine Rg 1 ?_
  refine Oa (.i 0) ?_
  refine Ni ?_
  refine Ws ?_
  refine r_block ?_
  refine w_loop (V := Int) (fun v => [(0, .sl .no 1 (a0.map cI)), (1, .i a1), (5, .i v)]) (fun v m2 H' g' => St (· < g) H0 [] H' g' ∧ ref01_In_l1 a0 a1 m2 v = some r) (n := n) 0 (.k (.k (.k .nil))) ⟨(hS.keep [] rfl).up (by omega), hM⟩ ?_
  rintro v1 m2 H g2 ⟨hS, hM⟩
  obtain _ | m2 := m2
  ·exact nomatch (show none = some _ from hM)
  change wpA _ _ _ _ (Fr.of [(0, .sl .no 1 (a0.map cI)), (1, .i a1), (5, .i v1)]) _ _
  replace hS : St (· < g) H0 [] H g2 := hS
  replace hM : ref01_In_l1_b a0 a1 (ref01_In_l1 a0 a1 m2) v1 = some r := hM
  refine Sq ?_
  refine Sq ?_
  refine Rg 4 ?_
  refine Om (.i v1) ?_
  refine Om (.sl .no 1 (a0.map cI)) ?_
  refine o_len (n := a0.length) (by decide) rfl (List.length_map _) ty_isl22 ?_
  refine Oi (.b (decide (v1 < (a0.length : Int)))) ?_
  refine Ni ?_
  refine Ws ?_
  rcases bft (decide (v1 < (a0.length : Int))) with hb2 | hb2
  ·replace hM := ifT hM hb2
   refine Ct hb2 ?_
   refine r_skip ?_
   refine Ws ?_
   refine Sq ?_
   refine r_block ?_
   refine Sq ?_
   refine Rg 6 ?_
   refine Om (.sl .no 1 (a0.map cI)) ?_
   refine Om (.i v1) ?_
   obtain ⟨x3, hx3, hM⟩ := bindE hM
   refine o_index (xs := a0) (f := cI) (z := v1) (u := x3) (by decide) rfl rfl ty_es22 hx3 ?_
   refine Olp (.i x3) ty_agg3 ty_sc3 ?_
   refine Om (.i a1) ?_
   refine Oi (.b (x3 == a1)) ?_
   refine Ni ?_
   refine Ws ?_
   rcases bft (x3 == a1) with hb4 | hb4
   ·replace hM := ifT hM hb4
    refine Ct hb4 ?_
    refine Sq ?_
    refine Rg 1 ?_
    refine Oa (.b true) ?_
    refine Ni ?_
    refine Ws ?_
    refine r_ret ?_
    refine r_blk_ret ?_
    refine r_then_ret ?_
    refine w_round_ret ?_
    refine r_blk_ret ?_
    refine w_goto_ret ?_
    refine w_end (x := .b true) (f := fun r => .b r) (.inr rfl) ?_ (.refl _) (Option.some.inj hM) hS
    exact (res_one (res_tmp (x := .b true) rfl))
   ·replace hM := ifF hM hb4
    refine Cf hb4 ?_
    refine r_skip ?_
    refine r_blk_normal ?_
    refine Ws ?_
    refine Rg 3 ?_
    refine Om (.i v1) ?_
    refine Oi (.i (w64 (v1 + 1))) ?_
    refine Oa (.i (w64 (v1 + 1))) ?_
    refine Ni ?_
    exact w_round (w64 (v1 + 1)) (Nat.lt_succ_self _) (.k (.k (.k .nil))) ⟨(hS.keep [] rfl).up (by omega), hM⟩
  ·replace hM := ifF hM hb2
   refine Cf hb2 ?_
   refine r_exit ?_
   refine r_then_exit ?_
   refine w_round_exit ?_
   refine r_blk_exit ?_
   exact w_goto () .nil ⟨(hS.keep [] rfl).up (by omega), hM⟩
theorem W_ref01_Put {n : Nat} {a0 : Wheel} {a1 : Int} {a2 : Int} {r : Int × Int} (hM : ref01_Put n a0 a1 a2 = some r) : PureSat Try.prog 63 [.agg (Wheel.cells a0), .i a1, .i a2] (.tup [.i r.1, .i r.2]) := by
 refine pure_of_wp mixed Try.func63 rfl (by decide) Try.ntmps63 (by simp) ?pure fun H0 g hf => ?_
 case pure => exact .tup _ (pl_cons (.v _) (pl_cons (.v _) pl_nil))
 rw [frame0_of]
 change wpA _ _ _ _ (Fr.of [(0, .agg (Wheel.cells a0)), (1, .i a1), (2, .i a2)]) H0 g
 have hS := St.start hf
 refine Sq ?_
 refine Rg 3 ?_
 refine o_box (v := .agg (Wheel.cells a0)) (cs := (Wheel.cells a0)) hS (by decide) rfl rfl (by omega) fun H hS => ?_
 refine Oa (.i 0) ?_
 refine Oa (.i 0) ?_
 refine Ni ?_
 refine w_iceE (L' := []) 0 3 hS rfl rfl rfl fun H hS => ?_
 refine Ws ?_
 refine w_join (J := Int × Int) (fun j => [(1, .i j.1), (7, .i j.2)]) (fun j H' g' => St (· < g) H0 [] H' g' ∧ ref01_Put_j1 j.1 j.2 = some r) ?_ ?_
 ·rintro ⟨v1, v2⟩ H g1 ⟨hS, hM⟩
  change wpA _ _ _ _ (Fr.of [(1, .i v1), (7, .i v2)]) _ _
  replace hS : St (· < g) H0 [] H g1 := hS
  replace hM : ref01_Put_j1 v1 v2 = some r := hM
  refine Sq ?_
  refine Rg 4 ?_
  refine Om (.i v1) ?_
  refine Om (.i v2) ?_
  refine Oa (.i v1) ?_
  refine Oa (.i v2) ?_
  refine Ni ?_
  refine Ws ?_
  refine r_ret ?_
  refine w_end (x := .tup [.i v1, .i v2]) (f := fun r => .tup [.i r.1, .i r.2]) (.inr rfl) ?_ (.refl _) (Option.some.inj hM) hS
  exact (res_two (res_tmp (x := .i v1) rfl) (res_tmp (x := .i v2) rfl))
 ·refine Sq ?_
  refine Rg 1 ?_
  refine Oa (.i 0) ?_
  refine Ni ?_
  refine Ws ?_
  refine r_block ?_
  refine w_loop (V := Int × Int × Int) (fun v => [(1, .i v.1), (2, .i a2), (3, .ep (Wheel.cells a0)), (7, .i v.2.1), (8, .i v.2.2)]) (fun v m2 H' g' => St (· < g) H0 [] H' g' ∧ ref01_Put_l1 n a0 a2 m2 v.1 v.2.1 v.2.2 = some r) (n := n) (a1, 0, 0) (.k (.k (.k (.k (.k .nil))))) ⟨(hS.keep [] rfl).up (by omega), hM⟩ ?_
  rintro ⟨v3, v4, v5⟩ m2 H g2 ⟨hS, hM⟩
  obtain _ | m2 := m2
  ·exact nomatch (show none = some _ from hM)
  change wpA _ _ _ _ (Fr.of [(1, .i v3), (2, .i a2), (3, .ep (Wheel.cells a0)), (7, .i v4), (8, .i v5)]) _ _
  replace hS : St (· < g) H0 [] H g2 := hS
  replace hM : ref01_Put_l1_b n a0 a2 (ref01_Put_l1 n a0 a2 m2) v3 v4 v5 = some r := hM
  refine Sq ?_
  refine Sq ?_
  refine Rg 3 ?_
  refine Om (.i v5) ?_
  refine Om (.i a2) ?_
  refine Oi (.b (decide (v5 < a2))) ?_
  refine Ni ?_
  refine Ws ?_
  rcases bft (decide (v5 < a2)) with hb6 | hb6
  ·replace hM := ifT hM hb6
   refine Ct hb6 ?_
   refine r_skip ?_
   refine Ws ?_
   refine w_join (J := Int × Int) (fun j => [(1, .i j.1), (2, .i a2), (3, .ep (Wheel.cells a0)), (7, .i j.2), (8, .i v5)]) (fun j H' g' => St (· < g) H0 [] H' g' ∧ ref01_Put_j2 (ref01_Put_l1 n a0 a2 m2) v5 j.1 j.2 = some r) ?_ ?_
   ·rintro ⟨v7, v8⟩ H g3 ⟨hS, hM⟩
    change wpA _ _ _ _ (Fr.of [(1, .i v7), (2, .i a2), (3, .ep (Wheel.cells a0)), (7, .i v8), (8, .i v5)]) _ _
    replace hS : St (· < g) H0 [] H g3 := hS
    replace hM : ref01_Put_j2 (ref01_Put_l1 n a0 a2 m2) v5 v7 v8 = some r := hM
    refine Rg 3 ?_
    refine Om (.i v5) ?_
    refine Oi (.i (w64 (v5 + 1))) ?_
    refine Oa (.i (w64 (v5 + 1))) ?_
    refine Ni ?_
    exact w_round (v7, v8, w64 (v5 + 1)) (Nat.lt_succ_self _) (.k (.k (.k (.k (.k .nil))))) ⟨(hS.keep [] rfl).up (by omega), hM⟩
   ·refine r_block ?_
    refine Sq ?_
    refine Rg 3 ?_
    refine Om (.i v3) ?_
    refine Oi (.i (w64 (v3 + 1))) ?_
    refine Oa (.i (w64 (v3 + 1))) ?_
    refine Ni ?_
    refine Ws ?_
    refine w_join (J := Int) (fun j => [(1, .i (w64 (v3 + 1))), (2, .i a2), (3, .ep (Wheel.cells a0)), (7, .i j), (8, .i v5)]) (fun j H' g' => St (· < g) H0 [] H' g' ∧ ref01_Put_j3 (ref01_Put_l1 n a0 a2 m2) a0 v3 v5 j = some r) ?_ ?_
    ·rintro v9 H g4 ⟨hS, hM⟩
     change wpA _ _ _ _ (Fr.of [(1, .i (w64 (v3 + 1))), (2, .i a2), (3, .ep (Wheel.cells a0)), (7, .i v9), (8, .i v5)]) _ _
     replace hS : St (· < g) H0 [] H g4 := hS
     replace hM : ref01_Put_j3 (ref01_Put_l1 n a0 a2 m2) a0 v3 v5 v9 = some r := hM
     refine Sq ?_
     refine Rg 4 ?_
     refine Om (.i (w64 (v3 + 1))) ?_
     refine Of ((Wheel.cells a0)) ty_fo24_0 ?_
     refine Olp (.i a0.Round) ty_agg3 ty_sc3 ?_
     refine Oi (.b ((w64 (v3 + 1)) == a0.Round)) ?_
     refine Ni ?_
     refine Ws ?_
     rcases bft ((w64 (v3 + 1)) == a0.Round) with hb10 | hb10
     ·replace hM := ifT hM hb10
      refine Ct hb10 ?_
      refine Rg 1 ?_
      refine Oa (.i 0) ?_
      refine Ni ?_
      refine r_blk_normal ?_
      exact w_goto (0, v9) (.k (.k (.k (.k (.k .nil))))) ⟨(hS.keep [] rfl).up (by omega), hM⟩
     ·replace hM := ifF hM hb10
      refine Cf hb10 ?_
      refine r_skip ?_
      refine r_blk_normal ?_
      exact w_goto (w64 (v3 + 1), v9) (.k (.k (.k (.k (.k .nil))))) ⟨(hS.keep [] rfl).up (by omega), hM⟩
    ·refine Sq ?_
     refine Rg 4 ?_
     refine Of ((Wheel.cells a0)) ty_fo24_1 ?_
     refine Olp (.sl .no 1 (a0.Notches.map cI)) ty_agg22 ty_sc22 ?_
     refine Om (.i (w64 (v3 + 1))) ?_
     obtain ⟨r11, hr11, hM⟩ := bindE hM
     refine o_call (bs := [.sl .no 1 (a0.Notches.map cI), .i (w64 (v3 + 1))]) (by decide) rfl rfl ((W_ref01_In hr11).le (.k (.k .nil))) ?_
     refine Ni ?_
     refine Ws ?_
     rcases bft r11 with hb12 | hb12
     ·replace hM := ifT hM hb12
      refine Ct hb12 ?_
      refine Rg 3 ?_
      refine Om (.i v4) ?_
      refine Oi (.i (w64 (v4 + 1))) ?_
      refine Oa (.i (w64 (v4 + 1))) ?_
      refine Ni ?_
      exact w_goto (w64 (v4 + 1)) (.k (.k (.k (.k (.k .nil))))) ⟨(hS.keep [] rfl).up (by omega), hM⟩
     ·replace hM := ifF hM hb12
      refine Cf hb12 ?_
      refine r_skip ?_
      exact w_goto v4 (.k (.k (.k (.k (.k .nil))))) ⟨(hS.keep [] rfl).up (by omega), hM⟩
  ·replace hM := ifF hM hb6
   refine Cf hb6 ?_
   refine r_exit ?_
   refine r_then_exit ?_
   refine w_round_exit ?_
   refine r_blk_exit ?_
   exact w_goto (v3, v4) (.k (.k .nil)) ⟨(hS.keep [] rfl).up (by omega), hM⟩
theorem W_law01_same {n : Nat} {a0 : Wheel} {a1 : Wheel} {r : Bool} (hM : law01_same n a0 a1 = some r) : PureSat Try.prog 21 [.agg (Wheel.cells a0), .agg (Wheel.cells a1)] (.b r) := by
 refine pure_of_wp mixed Try.func21 rfl (by decide) Try.ntmps21 (by simp) ?pure fun H0 g hf => ?_
 case pure => exact .v _
 rw [frame0_of]
 change wpA _ _ _ _ (Fr.of [(0, .agg (Wheel.cells a0)), (1, .agg (Wheel.cells a1))]) H0 g
 have hS := St.start hf
 refine Sq ?_
 refine Rg 3 ?_
 refine o_box (v := .agg (Wheel.cells a0)) (cs := (Wheel.cells a0)) hS (by decide) rfl rfl (by omega) fun H hS => ?_
 refine o_box (v := .agg (Wheel.cells a1)) (cs := (Wheel.cells a1)) hS (by decide) rfl rfl (by omega) fun H hS => ?_
 refine Oa (.b false) ?_
 refine Ni ?_
 refine w_iceE (L' := [(g + 1, .cells (Wheel.cells a1))]) 1 2 hS rfl rfl rfl fun H hS => ?_
 refine w_iceE (L' := []) 0 3 hS rfl rfl rfl fun H hS => ?_
 refine Ws ?_
 refine w_join (J := Bool) (fun j => [(4, .b j)]) (fun j H' g' => St (· < g) H0 [] H' g' ∧ law01_same_j1 j = some r) ?_ ?_
 ·rintro v1 H g1 ⟨hS, hM⟩
  change wpA _ _ _ _ (Fr.of [(4, .b v1)]) _ _
  replace hS : St (· < g) H0 [] H g1 := hS
  replace hM : law01_same_j1 v1 = some r := hM
  refine r_ret ?_
  refine w_end (x := .b v1) (f := fun r => .b r) (.inr rfl) ?_ (.refl _) (Option.some.inj hM) hS
  exact (res_one (res_tmp (x := .b v1) rfl))
 ·refine Rg 20 ?_
  refine Of ((Wheel.cells a0)) ty_fo24_0 ?_
  refine Olp (.i a0.Round) ty_agg3 ty_sc3 ?_
  refine Of ((Wheel.cells a1)) ty_fo24_0 ?_
  refine Olp (.i a1.Round) ty_agg3 ty_sc3 ?_
  refine Oi (.b (a0.Round == a1.Round)) ?_
  refine Om (.b (a0.Round == a1.Round)) ?_
  rcases bft (a0.Round == a1.Round) with hb2 | hb2
  ·replace hM := ifT hM hb2
   refine Oy (want := true) hb2 ?_
   refine Of ((Wheel.cells a0)) ty_fo24_1 ?_
   refine Oy (want := true) hb2 ?_
   refine Olp (.sl .no 1 (a0.Notches.map cI)) ty_agg22 ty_sc22 ?_
   refine Oy (want := true) hb2 ?_
   refine Of ((Wheel.cells a1)) ty_fo24_1 ?_
   refine Oy (want := true) hb2 ?_
   refine Olp (.sl .no 1 (a1.Notches.map cI)) ty_agg22 ty_sc22 ?_
   refine Oy (want := true) hb2 ?_
   obtain ⟨r3, hr3, hM⟩ := bindE hM
   refine o_call (bs := [.sl .no 1 (a0.Notches.map cI), .sl .no 1 (a1.Notches.map cI)]) (by decide) rfl rfl ((W_ref01_SameInts hr3).le (.k (.k .nil))) ?_
   refine Pt (.b r3) hb2 ?_
   refine Om (.b r3) ?_
   rcases bft r3 with hb4 | hb4
   ·replace hM := ifT hM hb4
    refine Oy (want := true) hb4 ?_
    refine Of ((Wheel.cells a0)) ty_fo24_2 ?_
    refine Oy (want := true) hb4 ?_
    refine Olp (.sl .no 1 (a0.Coins.map cI)) ty_agg22 ty_sc22 ?_
    refine Oy (want := true) hb4 ?_
    refine Of ((Wheel.cells a1)) ty_fo24_2 ?_
    refine Oy (want := true) hb4 ?_
    refine Olp (.sl .no 1 (a1.Coins.map cI)) ty_agg22 ty_sc22 ?_
    refine Oy (want := true) hb4 ?_
    obtain ⟨r5, hr5, hM⟩ := bindE hM
    refine o_call (bs := [.sl .no 1 (a0.Coins.map cI), .sl .no 1 (a1.Coins.map cI)]) (by decide) rfl rfl ((W_ref01_SameInts hr5).le (.k (.k .nil))) ?_
    refine Pt (.b r5) hb4 ?_
    refine Oa (.b r5) ?_
    refine Ni ?_
    exact w_goto r5 (.k .nil) ⟨(hS.keep [] rfl).up (by omega), hM⟩
   ·replace hM := ifF hM hb4
    refine On (want := true) hb4 ?_
    refine On (want := true) hb4 ?_
    refine On (want := true) hb4 ?_
    refine On (want := true) hb4 ?_
    refine On (want := true) hb4 ?_
    refine Pf (.b false) hb4 ?_
    refine Oa (.b false) ?_
    refine Ni ?_
    exact w_goto false (.k .nil) ⟨(hS.keep [] rfl).up (by omega), hM⟩
  ·replace hM := ifF hM hb2
   refine On (want := true) hb2 ?_
   refine On (want := true) hb2 ?_
   refine On (want := true) hb2 ?_
   refine On (want := true) hb2 ?_
   refine On (want := true) hb2 ?_
   refine Pf (.b false) hb2 ?_
   refine Om (.b false) ?_
   refine Og ?_
   refine Og ?_
   refine Og ?_
   refine Og ?_
   refine Og ?_
   refine o_pickF (v := .b false) (e := false) (by decide) rfl rfl rfl ?_
   refine Oa (.b false) ?_
   refine Ni ?_
   exact w_goto false (.k .nil) ⟨(hS.keep [] rfl).up (by omega), hM⟩
theorem W_ref01_AreKinds {n : Nat} {a0 : Wheel} {a1 : List Int} {a2 : Int} {r : Bool} (hM : ref01_AreKinds n a0 a1 a2 = some r) : PureSat Try.prog 36 [.agg (Wheel.cells a0), .sl .no 1 (a1.map cI), .i a2] (.b r) := by
 refine pure_of_wp mixed Try.func36 rfl (by decide) Try.ntmps36 (by simp) ?pure fun H0 g hf => ?_
 case pure => exact .v _
 rw [frame0_of]
 change wpA _ _ _ _ (Fr.of [(0, .agg (Wheel.cells a0)), (1, .sl .no 1 (a1.map cI)), (2, .i a2)]) H0 g
 have hS := St.start hf
 refine Sq ?_
 refine Rg 2 ?_
 refine o_box (v := .agg (Wheel.cells a0)) (cs := (Wheel.cells a0)) hS (by decide) rfl rfl (by omega) fun H hS => ?_
 refine Oa (.b false) ?_
 refine Ni ?_
 refine w_iceE (L' := []) 0 3 hS rfl rfl rfl fun H hS => ?_
 refine Ws ?_
 refine w_join (J := Unit) (fun j => [(1, .sl .no 1 (a1.map cI))]) (fun j H' g' => St (· < g) H0 [] H' g' ∧ ref01_AreKinds_j1 a1 = some r) ?_ ?_
 ·rintro _ H g1 ⟨hS, hM⟩
  change wpA _ _ _ _ (Fr.of [(1, .sl .no 1 (a1.map cI))]) _ _
  replace hS : St (· < g) H0 [] H g1 := hS
  replace hM : ref01_AreKinds_j1 a1 = some r := hM
  refine Sq ?_
  refine Rg 4 ?_
  refine Om (.sl .no 1 (a1.map cI)) ?_
  refine o_len (n := a1.length) (by decide) rfl (List.length_map _) ty_isl22 ?_
  refine Oi (.b (decide ((a1.length : Int) ≤ 20))) ?_
  refine Oa (.b (decide ((a1.length : Int) ≤ 20))) ?_
  refine Ni ?_
  refine Ws ?_
  refine r_ret ?_
  refine w_end (x := .b (decide ((a1.length : Int) ≤ 20))) (f := fun r => .b r) (.inr rfl) ?_ (.refl _) (Option.some.inj hM) hS
  exact (res_one (res_tmp (x := .b (decide ((a1.length : Int) ≤ 20))) rfl))
 ·refine Sq ?_
  refine Rg 1 ?_
  refine Oa (.i 0) ?_
  refine Ni ?_
  refine Ws ?_
  refine r_block ?_
  refine w_loop (V := Int) (fun v => [(1, .sl .no 1 (a1.map cI)), (2, .i a2), (3, .ep (Wheel.cells a0)), (7, .i v)]) (fun v m2 H' g' => St (· < g) H0 [] H' g' ∧ ref01_AreKinds_l1 a0 a1 a2 m2 v = some r) (n := n) 0 (.k (.k (.k (.k .nil)))) ⟨(hS.keep [] rfl).up (by omega), hM⟩ ?_
  rintro v1 m2 H g2 ⟨hS, hM⟩
  obtain _ | m2 := m2
  ·exact nomatch (show none = some _ from hM)
  change wpA _ _ _ _ (Fr.of [(1, .sl .no 1 (a1.map cI)), (2, .i a2), (3, .ep (Wheel.cells a0)), (7, .i v1)]) _ _
  replace hS : St (· < g) H0 [] H g2 := hS
  replace hM : ref01_AreKinds_l1_b a0 a1 a2 (ref01_AreKinds_l1 a0 a1 a2 m2) v1 = some r := hM
  refine Sq ?_
  refine Sq ?_
  refine Rg 4 ?_
  refine Om (.i v1) ?_
  refine Om (.sl .no 1 (a1.map cI)) ?_
  refine o_len (n := a1.length) (by decide) rfl (List.length_map _) ty_isl22 ?_
  refine Oi (.b (decide (v1 < (a1.length : Int)))) ?_
  refine Ni ?_
  refine Ws ?_
  rcases bft (decide (v1 < (a1.length : Int))) with hb2 | hb2
  ·replace hM := ifT hM hb2
   refine Ct hb2 ?_
   refine r_skip ?_
   refine Ws ?_
   refine Sq ?_
   refine r_block ?_
   refine Sq ?_
   have hS0 := hS
   refine r_draw (n := 11) rfl (by kernel_rfl) ?_
   refine Om (.sl .no 1 (a1.map cI)) ?_
   refine Om (.i v1) ?_
   obtain ⟨x3, hx3, hM⟩ := bindE hM
   refine o_index (xs := a1) (f := cI) (z := v1) (u := x3) (by decide) rfl rfl ty_es22 hx3 ?_
   refine Olp (.i x3) ty_agg3 ty_sc3 ?_
   refine Om (.i a2) ?_
   refine Of ((Wheel.cells a0)) ty_fo24_2 ?_
   refine Olp (.sl .no 1 (a0.Coins.map cI)) ty_agg22 ty_sc22 ?_
   refine o_len (n := a0.Coins.length) (by decide) rfl (List.length_map _) ty_isl22 ?_
   refine Oi (.i (w64 ((a0.Coins.length : Int) - 1))) ?_
   obtain ⟨r4, hr4, hM⟩ := bindE hM
   refine o_call (bs := [.i x3, .i a2, .i (w64 ((a0.Coins.length : Int) - 1))]) (by decide) rfl rfl ((W_ref01_Within hr4).le (.k (.k (.k .nil)))) ?_
   refine o_not (e := r4) (by decide) rfl ?_
   refine Ni ?_
   refine Ws ?_
   rcases bft (!r4) with hb5 | hb5
   ·replace hM := ifT hM hb5
    refine Ct hb5 ?_
    refine Sq ?_
    refine Rg 1 ?_
    refine Oa (.b false) ?_
    refine Ni ?_
    refine Ws ?_
    refine r_ret ?_
    refine r_blk_ret ?_
    refine r_then_ret ?_
    refine w_round_ret ?_
    refine r_blk_ret ?_
    refine w_goto_ret ?_
    refine w_end (x := .b false) (f := fun r => .b r) (.inr rfl) ?_ (.refl _) (Option.some.inj hM) hS
    exact (res_one (res_tmp (x := .b false) rfl))
   ·replace hM := ifF hM hb5
    refine Cf hb5 ?_
    refine r_skip ?_
    refine r_blk_normal ?_
    refine Ws ?_
    refine Rg 3 ?_
    refine Om (.i v1) ?_
    refine Oi (.i (w64 (v1 + 1))) ?_
    refine Oa (.i (w64 (v1 + 1))) ?_
    refine Ni ?_
    exact w_round (w64 (v1 + 1)) (Nat.lt_succ_self _) (.k (.k (.k (.k .nil)))) ⟨(hS.keep [] rfl).up (by omega), hM⟩
  ·replace hM := ifF hM hb2
   refine Cf hb2 ?_
   refine r_exit ?_
   refine r_then_exit ?_
   refine w_round_exit ?_
   refine r_blk_exit ?_
   exact w_goto () (.k .nil) ⟨(hS.keep [] rfl).up (by omega), hM⟩
theorem W_ref01_What {n : Nat} {a0 : Wheel} {a1 : Int} {a2 : List Int} {r : (List Seen) × Int} (hM : ref01_What n a0 a1 a2 = some r) : PureSat Try.prog 37 [.agg (Wheel.cells a0), .i a1, .sl .no 1 (a2.map cI)] (.tup [.sl .no 2 (r.1.map Seen.cells), .i r.2]) := by
 refine pure_of_wp mixed Try.func37 rfl (by decide) Try.ntmps37 (by simp) ?pure fun H0 g hf => ?_
 case pure => exact .tup _ (pl_cons (.sl _ _ (pures_map (fun x => (pl_cons (.v _) (pl_cons (.v _) pl_nil))))) (pl_cons (.v _) pl_nil))
 rw [frame0_of]
 change wpA _ _ _ _ (Fr.of [(0, .agg (Wheel.cells a0)), (1, .i a1), (2, .sl .no 1 (a2.map cI))]) H0 g
 have hS := St.start hf
 refine Sq ?_
 refine Rg 3 ?_
 refine o_box (v := .agg (Wheel.cells a0)) (cs := (Wheel.cells a0)) hS (by decide) rfl rfl (by omega) fun H hS => ?_
 refine Oa (.sl .nil 0 []) ?_
 refine Oa (.i 0) ?_
 refine Ni ?_
 refine w_iceE (L' := []) 0 3 hS rfl rfl rfl fun H hS => ?_
 refine w_own [(1, .i a1), (2, .sl .no 1 (a2.map cI)), (3, .ep (Wheel.cells a0)), (6, .sl (.id (g + 3)) 2 (([] : List Seen).map Seen.cells))] 6 2 50 hS (by omega) (by decide) rfl (.k (.k (.k (.k .nil)))) fun H hS => ?_
 refine w_join (J := Int × (List Seen)) (fun j => [(1, .i j.1), (6, .sl (.id (g + 3)) 2 (j.2.map Seen.cells))]) (fun j H' g' => St (· < g) H0 [(g + 3, .row 50 j.2.length)] H' g' ∧ ref01_What_j1 j.1 j.2 = some r) ?_ ?_
 ·rintro ⟨v1, v2⟩ H g1 ⟨hS, hM⟩
  change wpA _ _ _ _ (Fr.of [(1, .i v1), (6, .sl (.id (g + 3)) 2 (v2.map Seen.cells))]) _ _
  replace hS : St (· < g) H0 [(g + 3, .row 50 v2.length)] H g1 := hS
  replace hM : ref01_What_j1 v1 v2 = some r := hM
  refine Sq ?_
  refine Rg 4 ?_
  refine Om (.sl (.id (g + 3)) 2 (v2.map Seen.cells)) ?_
  refine Om (.i v1) ?_
  refine Oa (.sl (.id (g + 3)) 2 (v2.map Seen.cells)) ?_
  refine Oa (.i v1) ?_
  refine Ni ?_
  refine Ws ?_
  refine r_ret ?_
  refine w_end (x := .tup [.sl (.id (g + 3)) 2 (v2.map Seen.cells), .i v1]) (f := fun r => .tup [.sl .no 2 (r.1.map Seen.cells), .i r.2]) (.inr rfl) ?_ (.tupL (.cons (.sl _ _ _) (.k .nil))) (Option.some.inj hM) hS
  exact (res_two (res_tmp (x := .sl (.id (g + 3)) 2 (v2.map Seen.cells)) rfl) (res_tmp (x := .i v1) rfl))
 ·refine Sq ?_
  refine Rg 1 ?_
  refine Oa (.i 0) ?_
  refine Ni ?_
  refine Ws ?_
  refine r_block ?_
  refine w_loop (V := Int × (List Seen) × Int) (fun v => [(1, .i v.1), (2, .sl .no 1 (a2.map cI)), (3, .ep (Wheel.cells a0)), (6, .sl (.id (g + 3)) 2 (v.2.1.map Seen.cells)), (8, .i v.2.2)]) (fun v m2 H' g' => St (· < g) H0 [(g + 3, .row 50 v.2.1.length)] H' g' ∧ ref01_What_l1 n a0 a2 m2 v.1 v.2.1 v.2.2 = some r) (n := n) (a1, ([] : List Seen), 0) (.k (.k (.k (.k (.k .nil))))) ⟨(hS.keep [true] rfl).up (by omega), hM⟩ ?_
  rintro ⟨v3, v4, v5⟩ m2 H g2 ⟨hS, hM⟩
  obtain _ | m2 := m2
  ·exact nomatch (show none = some _ from hM)
  change wpA _ _ _ _ (Fr.of [(1, .i v3), (2, .sl .no 1 (a2.map cI)), (3, .ep (Wheel.cells a0)), (6, .sl (.id (g + 3)) 2 (v4.map Seen.cells)), (8, .i v5)]) _ _
  replace hS : St (· < g) H0 [(g + 3, .row 50 v4.length)] H g2 := hS
  replace hM : ref01_What_l1_b n a0 a2 (ref01_What_l1 n a0 a2 m2) v3 v4 v5 = some r := hM
  refine Sq ?_
  refine Sq ?_
  refine Rg 4 ?_
  refine Om (.i v5) ?_
  refine Om (.sl .no 1 (a2.map cI)) ?_
  refine o_len (n := a2.length) (by decide) rfl (List.length_map _) ty_isl22 ?_
  refine Oi (.b (decide (v5 < (a2.length : Int)))) ?_
  refine Ni ?_
  refine Ws ?_
  rcases bft (decide (v5 < (a2.length : Int))) with hb6 | hb6
  ·replace hM := ifT hM hb6
   refine Ct hb6 ?_
   refine r_skip ?_
   refine Ws ?_
   refine Sq ?_
   refine r_block ?_
   refine Sq ?_
   have hS0 := hS
   refine r_draw (n := 16) rfl (by kernel_rfl) ?_
   refine Olg (.agg (Wheel.cells a0)) ty_agg24 ?_
   refine Om (.i v3) ?_
   refine Of ((Wheel.cells a0)) ty_fo24_2 ?_
   refine Olp (.sl .no 1 (a0.Coins.map cI)) ty_agg22 ty_sc22 ?_
   refine Om (.sl .no 1 (a2.map cI)) ?_
   refine Om (.i v5) ?_
   obtain ⟨x7, hx7, hM⟩ := bindE hM
   refine o_index (xs := a2) (f := cI) (z := v5) (u := x7) (by decide) rfl rfl ty_es22 hx7 ?_
   refine Olp (.i x7) ty_agg3 ty_sc3 ?_
   obtain ⟨x8, hx8, hM⟩ := bindE hM
   refine o_index (xs := a0.Coins) (f := cI) (z := x7) (u := x8) (by decide) rfl rfl ty_es22 hx8 ?_
   refine Olp (.i x8) ty_agg3 ty_sc3 ?_
   obtain ⟨r9, hr9, hM⟩ := bindE hM
   refine o_call (bs := [.agg (Wheel.cells a0), .i v3, .i x8]) (by decide) rfl rfl ((W_ref01_Put hr9).le (.k (.k (.k .nil)))) ?_
   refine Om (.tup [.i r9.1, .i r9.2]) ?_
   refine Ox (.i r9.1) ?_
   refine Ox (.i r9.2) ?_
   refine Oa (.i r9.1) ?_
   refine Oa (.i r9.2) ?_
   refine Ni ?_
   refine Ws ?_
   refine Rg 12 ?_
   refine Om (.sl (.id (g + 3)) 2 (v4.map Seen.cells)) ?_
   refine Om (.sl .no 1 (a2.map cI)) ?_
   refine Om (.i v5) ?_
   obtain ⟨x10, hx10, hM⟩ := bindE hM
   refine o_index (xs := a2) (f := cI) (z := v5) (u := x10) (by decide) rfl rfl ty_es22 hx10 ?_
   refine Olp (.i x10) ty_agg3 ty_sc3 ?_
   refine Om (.i r9.2) ?_
   refine o_build (cs := [.i x10, .i r9.2]) (by decide) ty_zero50 ty_pl50 rfl ?_
   refine o_buildSlice (es := [[.i x10, .i r9.2]]) hS (by decide) ty_es45 ty_el45 rfl ty_ef45 rfl (by decide) (by omega) fun H hS => ?_
   obtain ⟨l11, hl11, hM⟩ := bindE hM
   refine o_append (xs := v4) (ys := ([(⟨x10, r9.2⟩ : Seen)] : List Seen)) (zs := l11) (f := Seen.cells) (L' := [(g2 + 4 + 16 + 7, .row 50 1), (g + 3, .row 50 l11.length)]) 1 hS (by decide) rfl rfl rfl rfl .no ty_es45 ty_el45 ty_ef45 hl11 rfl fun H hS => ?_
   refine Om (.i r9.1) ?_
   refine Oa (.sl (.id (g + 3)) 2 (l11.map Seen.cells)) ?_
   refine Oa (.i r9.1) ?_
   refine Ni ?_
   refine r_blk_normal ?_
   replace hS := hS.keep (L' := [(g + 3, .row 50 l11.length)]) [false, true] rfl
   refine Ws ?_
   refine Rg 3 ?_
   refine Om (.i v5) ?_
   refine Oi (.i (w64 (v5 + 1))) ?_
   refine Oa (.i (w64 (v5 + 1))) ?_
   refine Ni ?_
   exact w_round (r9.1, l11, w64 (v5 + 1)) (Nat.lt_succ_self _) (.k (.k (.k (.k (.k .nil))))) ⟨(hS.keep [true] rfl).up (by omega), hM⟩
  ·replace hM := ifF hM hb6
   refine Cf hb6 ?_
   refine r_exit ?_
   refine r_then_exit ?_
   refine w_round_exit ?_
   refine r_blk_exit ?_
   exact w_goto (v3, v4) (.k (.k .nil)) ⟨(hS.keep [true] rfl).up (by omega), hM⟩
theorem W_coins_Tell_c1 {a0 : Wheel_} {r : Bool} (hM : coins_Tell_c1 a0 = some r) : PureSat Try.prog 90 [.agg (Wheel_.cells a0)] (.b r) := by
 refine pure_of_wp mixed Try.func90 rfl (by decide) Try.ntmps90 (by simp) ?pure fun H0 g hf => ?_
 case pure => exact .v _
 rw [frame0_of]
 change wpA _ _ _ _ (Fr.of [(0, .agg (Wheel_.cells a0))]) H0 g
 have hS := St.start hf
 refine Sq ?_
 refine Rg 2 ?_
 refine o_box (v := .agg (Wheel_.cells a0)) (cs := (Wheel_.cells a0)) hS (by decide) rfl rfl (by omega) fun H hS => ?_
 refine Oa (.b false) ?_
 refine Ni ?_
 replace hS := hS.keep (L' := []) [false] rfl
 refine Ws ?_
 refine Sq ?_
 refine Rg 1 ?_
 refine Oa (.b true) ?_
 refine Ni ?_
 refine w_next [(2, .b true)] (.k .nil) ?_
 refine r_ret ?_
 refine w_end (x := .b true) (f := fun r => .b r) (.inr rfl) ?_ (.refl _) (Option.some.inj hM) hS
 exact (res_one (res_tmp (x := .b true) rfl))
theorem W_coins_wheel_tells {n : Nat} {a0 : Wheel_} {a1 : List Int} {r : Bool} (hM : coins_wheel_tells n a0 a1 = some r) : PureSat Try.prog 91 [.agg (Wheel_.cells a0), .sl .no 1 (a1.map cI)] (.b r) := by
 refine pure_of_wp mixed Try.func91 rfl (by decide) Try.ntmps91 (by simp) ?pure fun H0 g hf => ?_
 case pure => exact .v _
 rw [frame0_of]
 change wpA _ _ _ _ (Fr.of [(0, .agg (Wheel_.cells a0)), (1, .sl .no 1 (a1.map cI))]) H0 g
 have hS := St.start hf
 refine Sq ?_
 refine Rg 2 ?_
 refine o_box (v := .agg (Wheel_.cells a0)) (cs := (Wheel_.cells a0)) hS (by decide) rfl rfl (by omega) fun H hS => ?_
 refine Oa (.b false) ?_
 refine Ni ?_
 refine w_iceE (L' := []) 0 2 hS rfl rfl rfl fun H hS => ?_
 refine Ws ?_
 refine Sq ?_
 refine Rg 2 ?_
 refine o_makeMap (kv := kvI) hS (by decide) ty_map134 (by omega) fun H hS => ?_
 refine Oa (.mp (g + 2 + 0)) ?_
 refine Ni ?_
 refine Ws ?_
 refine w_join (J := Unit) (fun j => []) (fun j H' g' => St (· < g) H0 [] H' g' ∧ coins_wheel_tells_j1 = some r) ?_ ?_
 ·rintro _ H g1 ⟨hS, hM⟩
  change wpA _ _ _ _ (Fr.of []) _ _
  replace hS : St (· < g) H0 [] H g1 := hS
  replace hM : coins_wheel_tells_j1 = some r := hM
  refine Sq ?_
  refine Rg 1 ?_
  refine Oa (.b true) ?_
  refine Ni ?_
  refine Ws ?_
  refine r_ret ?_
  refine w_end (x := .b true) (f := fun r => .b r) (.inr rfl) ?_ (.refl _) (Option.some.inj hM) hS
  exact (res_one (res_tmp (x := .b true) rfl))
 ·refine Sq ?_
  refine Rg 4 ?_
  refine Of ((Wheel_.cells a0)) ty_fo71_0 ?_
  refine Of ((Wheel_.cells a0)) ty_fo24_0 ?_
  refine Olp (.i a0.Wheel.Round) ty_agg3 ty_sc3 ?_
  refine Om (.i 0) ?_
  refine Ni ?_
  refine Ws ?_
  refine r_block ?_
  refine w_loop (V := Int × (List (Int × Int))) (fun v => [(1, .sl .no 1 (a1.map cI)), (2, .ep (Wheel_.cells a0)), (5, .mp (g + 2 + 0)), (18, .i a0.Wheel.Round), (19, .i v.1)]) (fun v m3 H' g' => St (· < g) H0 [(g + 2 + 0, .obj none (mapIs (mpv kvI v.2)))] H' g' ∧ coins_wheel_tells_l1 n a0 a1 m3 v.1 v.2 = some r) (n := n) (0, ([] : List (Int × Int))) (.k (.k (.k (.k (.k .nil))))) ⟨(hS.keep [true] rfl).up (by omega), hM⟩ ?_
  rintro ⟨v2, v3⟩ m3 H g3 ⟨hS, hM⟩
  obtain _ | m3 := m3
  ·exact nomatch (show none = some _ from hM)
  change wpA _ _ _ _ (Fr.of [(1, .sl .no 1 (a1.map cI)), (2, .ep (Wheel_.cells a0)), (5, .mp (g + 2 + 0)), (18, .i a0.Wheel.Round), (19, .i v2)]) _ _
  replace hS : St (· < g) H0 [(g + 2 + 0, .obj none (mapIs (mpv kvI v3)))] H g3 := hS
  replace hM : coins_wheel_tells_l1_b n a0 a1 (coins_wheel_tells_l1 n a0 a1 m3) v2 v3 = some r := hM
  refine Sq ?_
  refine Rg 1 ?_
  refine Oi (.b (decide (v2 < a0.Wheel.Round))) ?_
  refine Ni ?_
  refine Ws ?_
  refine Sq ?_
  rcases bft (decide (v2 < a0.Wheel.Round)) with hb4 | hb4
  ·replace hM := ifT hM hb4
   refine Ct hb4 ?_
   refine r_skip ?_
   refine Ws ?_
   refine w_join (J := (List (Int × Int))) (fun j => [(1, .sl .no 1 (a1.map cI)), (2, .ep (Wheel_.cells a0)), (5, .mp (g + 2 + 0)), (18, .i a0.Wheel.Round), (19, .i v2)]) (fun j H' g' => St (· < g) H0 [(g + 2 + 0, .obj none (mapIs (mpv kvI j)))] H' g' ∧ coins_wheel_tells_j2 (coins_wheel_tells_l1 n a0 a1 m3) v2 j = some r) ?_ ?_
   ·rintro v5 H g4 ⟨hS, hM⟩
    change wpA _ _ _ _ (Fr.of [(1, .sl .no 1 (a1.map cI)), (2, .ep (Wheel_.cells a0)), (5, .mp (g + 2 + 0)), (18, .i a0.Wheel.Round), (19, .i v2)]) _ _
    replace hS : St (· < g) H0 [(g + 2 + 0, .obj none (mapIs (mpv kvI v5)))] H g4 := hS
    replace hM : coins_wheel_tells_j2 (coins_wheel_tells_l1 n a0 a1 m3) v2 v5 = some r := hM
    refine Rg 2 ?_
    refine Oi (.i (w64 (v2 + 1))) ?_
    refine Om (.i (w64 (v2 + 1))) ?_
    refine Ni ?_
    exact w_round (w64 (v2 + 1), v5) (Nat.lt_succ_self _) (.k (.k (.k (.k (.k .nil))))) ⟨(hS.keep [true] rfl).up (by omega), hM⟩
   ·refine r_block ?_
    refine Sq ?_
    refine Rg 2 ?_
    refine Om (.i v2) ?_
    refine Oa (.i v2) ?_
    refine Ni ?_
    refine Ws ?_
    refine Sq ?_
    refine Rg 3 ?_
    refine Om (.i v2) ?_
    refine Oa (.i 0) ?_
    refine Oa (.i v2) ?_
    refine Ni ?_
    refine Ws ?_
    refine w_join (J := Int × Int) (fun j => [(1, .sl .no 1 (a1.map cI)), (2, .ep (Wheel_.cells a0)), (5, .mp (g + 2 + 0)), (7, .i j.1), (8, .i j.2), (18, .i a0.Wheel.Round), (19, .i v2)]) (fun j H' g' => St (· < g) H0 [(g + 2 + 0, .obj none (mapIs (mpv kvI v3)))] H' g' ∧ coins_wheel_tells_j3 (coins_wheel_tells_l1 n a0 a1 m3) v2 v3 j.1 j.2 = some r) ?_ ?_
    ·rintro ⟨v6, v7⟩ H g5 ⟨hS, hM⟩
     change wpA _ _ _ _ (Fr.of [(1, .sl .no 1 (a1.map cI)), (2, .ep (Wheel_.cells a0)), (5, .mp (g + 2 + 0)), (7, .i v6), (8, .i v7), (18, .i a0.Wheel.Round), (19, .i v2)]) _ _
     replace hS : St (· < g) H0 [(g + 2 + 0, .obj none (mapIs (mpv kvI v3)))] H g5 := hS
     replace hM : coins_wheel_tells_j3 (coins_wheel_tells_l1 n a0 a1 m3) v2 v3 v6 v7 = some r := hM
     refine Sq ?_
     refine Sq ?_
     refine Rg 8 ?_
     refine Om (.mp (g + 2 + 0)) ?_
     refine Om (.i v6) ?_
     obtain ⟨x8, hx8, hM⟩ := bindE hM
     refine o_lookupOk (kv := kvI) (ok := okI) (M := v3) (k := v6) (u := x8) 0 keys3 hS (by decide) rfl rfl rfl .no ty_map134 ty_mz134 hx8 ?_
     refine Om (.tup [.i x8, .b (mhas v3 v6)]) ?_
     refine Ox (.i x8) ?_
     refine Ox (.b (mhas v3 v6)) ?_
     refine Oa (.i x8) ?_
     refine Oa (.b (mhas v3 v6)) ?_
     refine Ni ?_
     refine Ws ?_
     refine w_join (J := Bool) (fun j => [(1, .sl .no 1 (a1.map cI)), (2, .ep (Wheel_.cells a0)), (5, .mp (g + 2 + 0)), (7, .i v6), (8, .i v7), (18, .i a0.Wheel.Round), (19, .i v2), (58, .b j)]) (fun j H' g' => St (· < g) H0 [(g + 2 + 0, .obj none (mapIs (mpv kvI v3)))] H' g' ∧ coins_wheel_tells_j4 (coins_wheel_tells_l1 n a0 a1 m3) v2 v3 v6 v7 j = some r) ?_ ?_
     ·rintro v9 H g6 ⟨hS, hM⟩
      change wpA _ _ _ _ (Fr.of [(1, .sl .no 1 (a1.map cI)), (2, .ep (Wheel_.cells a0)), (5, .mp (g + 2 + 0)), (7, .i v6), (8, .i v7), (18, .i a0.Wheel.Round), (19, .i v2), (58, .b v9)]) _ _
      replace hS : St (· < g) H0 [(g + 2 + 0, .obj none (mapIs (mpv kvI v3)))] H g6 := hS
      replace hM : coins_wheel_tells_j4 (coins_wheel_tells_l1 n a0 a1 m3) v2 v3 v6 v7 v9 = some r := hM
      rcases bft v9 with hb10 | hb10
      ·replace hM := ifT hM hb10
       refine Ct hb10 ?_
       refine Sq ?_
       refine Rg 1 ?_
       refine Oa (.b false) ?_
       refine Ni ?_
       replace hS := hS.keep (L' := []) [false] rfl
       refine Ws ?_
       refine r_ret ?_
       refine r_then_ret ?_
       refine r_blk_ret ?_
       refine w_goto_ret ?_
       refine w_round_ret ?_
       refine r_blk_ret ?_
       refine w_goto_ret ?_
       refine w_end (x := .b false) (f := fun r => .b r) (.inr rfl) ?_ (.refl _) (Option.some.inj hM) hS
       exact (res_one (res_tmp (x := .b false) rfl))
      ·replace hM := ifF hM hb10
       refine Cf hb10 ?_
       refine r_skip ?_
       refine Ws ?_
       refine Rg 4 ?_
       refine Om (.mp (g + 2 + 0)) ?_
       refine Om (.i v6) ?_
       refine Om (.i v7) ?_
       obtain ⟨l11, hl11, hM⟩ := bindE hM
       refine o_mapUpdate (kv := kvI) (ok := okI) (M := v3) (k := v6) (v := v7) (M' := l11) (L' := [(g + 2 + 0, .obj none (mapIs (mpv kvI l11)))]) 0 keys3 (.inl rfl) hS rfl rfl rfl rfl ty_map134 ty_mz134 hl11 rfl fun H hS => ?_
       refine Ni ?_
       refine r_blk_normal ?_
       exact w_goto l11 (.k (.k (.k (.k (.k .nil))))) ⟨(hS.keep [true] rfl).up (by omega), hM⟩
     ·refine Rg 6 ?_
      refine Om (.b (mhas v3 v6)) ?_
      refine Om (.b (mhas v3 v6)) ?_
      rcases bft (mhas v3 v6) with hb12 | hb12
      ·replace hM := ifT hM hb12
       refine Oy (want := true) hb12 ?_
       refine Om (.i x8) ?_
       refine Oy (want := true) hb12 ?_
       refine Om (.i v7) ?_
       refine Oy (want := true) hb12 ?_
       refine Oi (.b (x8 != v7)) ?_
       refine Pt (.b (x8 != v7)) hb12 ?_
       refine Ni ?_
       exact w_goto (x8 != v7) (.k (.k (.k (.k (.k (.k (.k (.k .nil)))))))) ⟨(hS.keep [true] rfl).up (by omega), hM⟩
      ·replace hM := ifF hM hb12
       refine On (want := true) hb12 ?_
       refine On (want := true) hb12 ?_
       refine On (want := true) hb12 ?_
       refine Pf (.b false) hb12 ?_
       refine Ni ?_
       exact w_goto false (.k (.k (.k (.k (.k (.k (.k (.k .nil)))))))) ⟨(hS.keep [true] rfl).up (by omega), hM⟩
    ·refine Sq ?_
     refine Rg 3 ?_
     refine Om (.sl .no 1 (a1.map cI)) ?_
     refine o_len (n := a1.length) (by decide) rfl (List.length_map _) ty_isl22 ?_
     refine Om (.i 0) ?_
     refine Ni ?_
     refine Ws ?_
     refine r_block ?_
     refine w_loop (V := Int × Int × Int) (fun v => [(1, .sl .no 1 (a1.map cI)), (2, .ep (Wheel_.cells a0)), (5, .mp (g + 2 + 0)), (7, .i v.1), (8, .i v.2.1), (18, .i a0.Wheel.Round), (19, .i v2), (23, .sl .no 1 (a1.map cI)), (24, .i (a1.length : Int)), (25, .i v.2.2)]) (fun v m7 H' g' => St (· < g) H0 [(g + 2 + 0, .obj none (mapIs (mpv kvI v3)))] H' g' ∧ coins_wheel_tells_l2 n (coins_wheel_tells_l1 n a0 a1 m3) a0 a1 v2 v3 m7 v.1 v.2.1 v.2.2 = some r) (n := n) (0, v2, 0) (.k (.k (.k (.k (.k (.k (.k (.k (.k (.k .nil)))))))))) ⟨(hS.keep [true] rfl).up (by omega), hM⟩ ?_
     rintro ⟨v13, v14, v15⟩ m7 H g7 ⟨hS, hM⟩
     obtain _ | m7 := m7
     ·exact nomatch (show none = some _ from hM)
     change wpA _ _ _ _ (Fr.of [(1, .sl .no 1 (a1.map cI)), (2, .ep (Wheel_.cells a0)), (5, .mp (g + 2 + 0)), (7, .i v13), (8, .i v14), (18, .i a0.Wheel.Round), (19, .i v2), (23, .sl .no 1 (a1.map cI)), (24, .i (a1.length : Int)), (25, .i v15)]) _ _
     replace hS : St (· < g) H0 [(g + 2 + 0, .obj none (mapIs (mpv kvI v3)))] H g7 := hS
     replace hM : coins_wheel_tells_l2_b n (coins_wheel_tells_l1 n a0 a1 m3) a0 a1 v2 v3 (coins_wheel_tells_l2 n (coins_wheel_tells_l1 n a0 a1 m3) a0 a1 v2 v3 m7) v13 v14 v15 = some r := hM
     refine Sq ?_
     refine Rg 1 ?_
     refine Oi (.b (decide (v15 < (a1.length : Int)))) ?_
     refine Ni ?_
     refine Ws ?_
     refine Sq ?_
     rcases bft (decide (v15 < (a1.length : Int))) with hb16 | hb16
     ·replace hM := ifT hM hb16
      refine Ct hb16 ?_
      refine r_skip ?_
      refine Ws ?_
      refine Sq ?_
      refine r_block ?_
      refine Sq ?_
      refine Rg 3 ?_
      obtain ⟨x17, hx17, hM⟩ := bindE hM
      refine o_index (xs := a1) (f := cI) (z := v15) (u := x17) (by decide) rfl rfl ty_es22 hx17 ?_
      refine Olp (.i x17) ty_agg3 ty_sc3 ?_
      refine Oa (.i x17) ?_
      refine Ni ?_
      refine Ws ?_
      refine Sq ?_
      have hS0 := hS
      refine r_draw (n := 14) rfl (by kernel_rfl) ?_
      refine Olg (.agg (Wheel_.cells a0)) ty_agg71 ?_
      refine Om (.i v14) ?_
      refine Of ((Wheel_.cells a0)) ty_fo71_0 ?_
      refine Of ((Wheel_.cells a0)) ty_fo24_2 ?_
      refine Olp (.sl .no 1 (a0.Wheel.Coins.map cI)) ty_agg22 ty_sc22 ?_
      refine Om (.i x17) ?_
      obtain ⟨x18, hx18, hM⟩ := bindE hM
      refine o_index (xs := a0.Wheel.Coins) (f := cI) (z := x17) (u := x18) (by decide) rfl rfl ty_es22 hx18 ?_
      refine Olp (.i x18) ty_agg3 ty_sc3 ?_
      obtain ⟨r19, hr19, hM⟩ := bindE hM
      refine o_call (bs := [.agg (Wheel_.cells a0), .i v14, .i x18]) (by decide) rfl rfl ((W_coins_wheel_turn hr19).le (.k (.k (.k .nil)))) ?_
      refine Om (.tup [.i r19.1, .i r19.2]) ?_
      refine Ox (.i r19.1) ?_
      refine Ox (.i r19.2) ?_
      refine Oa (.i r19.1) ?_
      refine Oa (.i r19.2) ?_
      refine Ni ?_
      refine Ws ?_
      refine Rg 7 ?_
      refine Om (.i v13) ?_
      refine Oi (.i (w64 (v13 * 2401))) ?_
      refine Om (.i r19.2) ?_
      refine Oi (.i (w64 ((w64 (v13 * 2401)) + r19.2))) ?_
      refine Om (.i r19.1) ?_
      refine Oa (.i (w64 ((w64 (v13 * 2401)) + r19.2))) ?_
      refine Oa (.i r19.1) ?_
      refine Ni ?_
      refine r_blk_normal ?_
      refine Ws ?_
      refine Rg 2 ?_
      refine Oi (.i (w64 (v15 + 1))) ?_
      refine Om (.i (w64 (v15 + 1))) ?_
      refine Ni ?_
      exact w_round (w64 ((w64 (v13 * 2401)) + r19.2), r19.1, w64 (v15 + 1)) (Nat.lt_succ_self _) (.k (.k (.k (.k (.k (.k (.k (.k (.k (.k .nil)))))))))) ⟨(hS.keep [true] rfl).up (by omega), hM⟩
     ·replace hM := ifF hM hb16
      refine Cf hb16 ?_
      refine r_exit ?_
      refine r_then_exit ?_
      refine w_round_exit ?_
      refine r_blk_exit ?_
      exact w_goto (v13, v14) (.k (.k (.k (.k (.k (.k (.k .nil))))))) ⟨(hS.keep [true] rfl).up (by omega), hM⟩
  ·replace hM := ifF hM hb4
   refine Cf hb4 ?_
   refine r_exit ?_
   refine r_then_exit ?_
   refine w_round_exit ?_
   refine r_blk_exit ?_
   exact w_goto () .nil ⟨(hS.keep [false] rfl).up (by omega), hM⟩
theorem W_slices_Clone_int {a0 : List Int} {r : List Int} (hM : slices_Clone_int a0 = some r) : FreshSat Try.prog 92 [.sl .no 1 (a0.map cI)] 3 1 (r.map cI) := by
 have hr : r = a0 := by
  unfold slices_Clone_int app at hM
  split at hM
  ·injection hM with hM; rw [← hM]; rfl
  ·cases hM
 refine fresh_of_wp mixed Try.func92 rfl (by decide) Try.ntmps92 (by simp) ?pure fun H0 g hf => ?_
 case pure => exact pures_map (fun x => (pl_cons (.v _) pl_nil))
 rw [frame0_of]
 change wpA _ _ _ _ (Fr.of [(0, .sl .no 1 (a0.map cI))]) H0 g
 have hS := St.start hf
 refine Sq ?_
 refine Rg 1 ?_
 refine Oa (.sl .nil 0 []) ?_
 refine Ni ?_
 refine Ws ?_
 refine Sq ?_
 refine Sq ?_
 refine Rg 2 ?_
 refine Om (.sl .no 1 (a0.map cI)) ?_
 refine o_nil (t := 22) (tg := .no) (k := 1) (es := a0.map cI) (e := true) (by decide) rfl rfl rfl rfl ty_isl22 (fun _ => ?_) (fun hnil => ?_)
 ·refine Ni ?_
  refine Ws ?_
  refine w_condF (e := false == true) rfl rfl ?_
  refine r_skip ?_
  refine Ws ?_
  refine Sq ?_
  refine Rg 4 ?_
  refine o_buildSlice (es := []) hS (by decide) ty_es22 ty_el22 rfl ty_ef22 rfl (by decide) (by omega) fun H hS => ?_
  refine Om (.sl .no 1 (a0.map cI)) ?_
  refine o_append (xs := ([] : List Int)) (ys := a0) (zs := r) (f := cI) (L' := [(g + 1 + 2 + 0, .row 3 r.length)]) 0 hS (by decide) rfl rfl rfl rfl .no ty_es22 ty_el22 ty_ef22 hM rfl fun H hS => ?_
  refine Oa (.sl (.id (g + 1 + 2 + 0)) 1 (r.map cI)) ?_
  refine Ni ?_
  refine Ws ?_
  refine r_ret ?_
  refine w_endF (j := g + 1 + 2 + 0) 0 (.inr rfl) ?_ hS rfl (List.length_map _).symm
  exact res_one (res_tmp rfl)
 ·refine Ni ?_
  refine Ws ?_
  refine w_condT (e := true == true) rfl rfl ?_
  refine Sq ?_
  refine Rg 1 ?_
  refine Oa (.sl .nil 0 []) ?_
  refine Ni ?_
  refine Ws ?_
  refine r_ret ?_
  refine r_then_ret ?_
  refine w_endN (k' := 0) (.inr rfl) ?_ hS (by decide) (by rw [hr]; exact hnil)
  exact res_one (res_tmp rfl)
theorem W_coins_Tell {n : Nat} {a0 : Wheel} {r : (List Int) × Int} (hM : coins_Tell n a0 = some r) : PureSat Try.prog 50 [.agg (Wheel.cells a0)] (.tup [.sl .no 1 (r.1.map cI), .i r.2]) := by
 refine pure_of_wp mixed Try.func50 rfl (by decide) Try.ntmps50 (by simp) ?pure fun H0 g hf => ?_
 case pure => exact .tup _ (pl_cons (.sl _ _ (pures_map (fun x => (pl_cons (.v _) pl_nil)))) (pl_cons (.v _) pl_nil))
 rw [frame0_of]
 change wpA _ _ _ _ (Fr.of [(0, .agg (Wheel.cells a0))]) H0 g
 have hS := St.start hf
 refine Sq ?_
 refine Rg 3 ?_
 refine o_box (v := .agg (Wheel.cells a0)) (cs := (Wheel.cells a0)) hS (by decide) rfl rfl (by omega) fun H hS => ?_
 refine Oa (.sl .nil 0 []) ?_
 refine Oa (.i 0) ?_
 refine Ni ?_
 refine w_iceE (L' := []) 0 1 hS rfl rfl rfl fun H hS => ?_
 refine Ws ?_
 refine Sq ?_
 refine Rg 8 ?_
 refine Olg (.agg (Wheel.cells a0)) ty_agg24 ?_
 obtain ⟨r1, hr1, hM⟩ := bindE hM
 refine o_call (bs := [.agg (Wheel.cells a0), .fn (.func 90) [] []]) (by decide) rfl rfl (pure_of_hsat ((W_coins_open (Lo := (fun (_ : Unit) => []))  (fun _ _ => kl_nil) (fun _ => List.nodup_nil) (fun _ => inb_nil) (aF := (fun (x0 : Wheel_) (_ : Unit) => (coins_Tell_c1 x0).map fun y => (y, ()))) (fun _ H hH => (.fn _ _ _ ai_nil ai_nil)) rfl (fun h => csat_val (W_coins_Tell_c1 (pure_some h))) hr1).le (.k (.k .nil)))) ?_
 refine Om (.tup [.agg (Wheel_.cells r1.1.1), .i r1.1.2]) ?_
 refine Ox (.agg (Wheel_.cells r1.1.1)) ?_
 refine Ox (.i r1.1.2) ?_
 refine o_alloc hS (by decide) ty_zero71 (by omega) fun H hS => ?_
 refine o_store (v := .agg (Wheel_.cells r1.1.1)) (ns := (Wheel_.cells r1.1.1)) (L' := [(g + 3 + 5, .cells (Wheel_.cells r1.1.1))]) 0 hS rfl rfl .no rfl rfl ty_var71 nlb rfl fun H hS => ?_
 refine Oa (.i r1.1.2) ?_
 refine Ni ?_
 refine w_iceE (L' := []) 0 4 hS rfl rfl rfl fun H hS => ?_
 refine Ws ?_
 refine Sq ?_
 refine Sq ?_
 refine Rg 2 ?_
 refine Om (.i r1.1.2) ?_
 refine Oi (.b (r1.1.2 != 0)) ?_
 refine Ni ?_
 refine Ws ?_
 rcases bft (r1.1.2 != 0) with hb2 | hb2
 ·replace hM := ifT hM hb2
  refine Ct hb2 ?_
  refine Sq ?_
  refine Rg 3 ?_
  refine Om (.i r1.1.2) ?_
  refine Oa (.sl .nil 0 []) ?_
  refine Oa (.i r1.1.2) ?_
  refine Ni ?_
  refine Ws ?_
  refine r_ret ?_
  refine r_then_ret ?_
  refine w_end (x := .tup [.sl .nil 0 [], .i r1.1.2]) (f := fun r => .tup [.sl .no 1 (r.1.map cI), .i r.2]) (.inr rfl) ?_ (.tupL (.cons (.sl0 .nil 1 0) (.k .nil))) (Option.some.inj hM) hS
  exact (res_two (res_tmp (x := .sl .nil 0 []) rfl) (res_tmp (x := .i r1.1.2) rfl))
 ·replace hM := ifF hM hb2
  refine Cf hb2 ?_
  refine r_skip ?_
  refine Ws ?_
  refine Sq ?_
  refine Rg 2 ?_
  refine o_buildSliceW (es := [[.sl .nil 0 []]]) (es' := [[.sl .no 1 (([] : List Int).map cI)]]) hS (by decide) ty_es116 ty_el116 rfl ty_ef116 rfl (by decide) (by omega) (le_elems (lell_one (.cons (.sl0 _ _ _) .nil))) fun H hS => ?_
  refine Oa (.sl (.id (g + 3 + 8 + 2 + 0)) 1 (([([] : List Int)] : List (List Int)).map (cL 1 cI))) ?_
  refine Ni ?_
  refine Ws ?_
  refine w_join (J := Unit) (fun j => []) (fun j H' g' => St (· < g) H0 [] H' g' ∧ coins_Tell_j1 = some r) ?_ ?_
  ·rintro _ H g1 ⟨hS, hM⟩
   change wpA _ _ _ _ (Fr.of []) _ _
   replace hS : St (· < g) H0 [] H g1 := hS
   replace hM : coins_Tell_j1 = some r := hM
   refine Sq ?_
   refine Rg 2 ?_
   refine Oa (.sl .nil 0 []) ?_
   refine Oa (.i 3) ?_
   refine Ni ?_
   refine Ws ?_
   refine r_ret ?_
   refine w_end (x := .tup [.sl .nil 0 [], .i 3]) (f := fun r => .tup [.sl .no 1 (r.1.map cI), .i r.2]) (.inr rfl) ?_ (.tupL (.cons (.sl0 .nil 1 0) (.k .nil))) (Option.some.inj hM) hS
   exact (res_two (res_tmp (x := .sl .nil 0 []) rfl) (res_tmp (x := .i 3) rfl))
  ·refine Sq ?_
   refine Rg 1 ?_
   refine Om (.i 0) ?_
   refine Ni ?_
   refine Ws ?_
   refine r_block ?_
   refine w_loop (V := (List (List Int)) × Int) (fun v => [(1, .ep (Wheel.cells a0)), (4, .ep (Wheel_.cells r1.1.1)), (6, .sl .no 1 (v.1.map (cL 1 cI))), (20, .i v.2)]) (fun v m3 H' g' => St (· < g) H0 [] H' g' ∧ coins_Tell_l1 n a0 r1 m3 v.1 v.2 = some r) (n := n) (([([] : List Int)] : List (List Int)), 0) (.k (.k (.cons (.sl _ _ _) (.k .nil)))) ⟨(hS.keep [false] rfl).up (by omega), hM⟩ ?_
   rintro ⟨v5, v6⟩ m3 H g3 ⟨hS, hM⟩
   obtain _ | m3 := m3
   ·exact nomatch (show none = some _ from hM)
   change wpA _ _ _ _ (Fr.of [(1, .ep (Wheel.cells a0)), (4, .ep (Wheel_.cells r1.1.1)), (6, .sl .no 1 (v5.map (cL 1 cI))), (20, .i v6)]) _ _
   replace hS : St (· < g) H0 [] H g3 := hS
   replace hM : coins_Tell_l1_b n a0 r1 (coins_Tell_l1 n a0 r1 m3) v5 v6 = some r := hM
   refine Sq ?_
   refine Rg 1 ?_
   refine Oi (.b (decide (v6 < 5))) ?_
   refine Ni ?_
   refine Ws ?_
   refine Sq ?_
   rcases bft (decide (v6 < 5)) with hb7 | hb7
   ·replace hM := ifT hM hb7
    refine Ct hb7 ?_
    refine r_skip ?_
    refine Ws ?_
    refine w_join (J := (List (List Int))) (fun j => [(1, .ep (Wheel.cells a0)), (4, .ep (Wheel_.cells r1.1.1)), (6, .sl (.id (g3 + 1 + 1)) 1 (j.map (cL 1 cI))), (20, .i v6)]) (fun j H' g' => St (· < g) H0 [(g3 + 1 + 1, .row 22 j.length)] H' g' ∧ coins_Tell_j2 (coins_Tell_l1 n a0 r1 m3) v6 j = some r) ?_ ?_
    ·rintro v8 H g4 ⟨hS, hM⟩
     change wpA _ _ _ _ (Fr.of [(1, .ep (Wheel.cells a0)), (4, .ep (Wheel_.cells r1.1.1)), (6, .sl (.id (g3 + 1 + 1)) 1 (v8.map (cL 1 cI))), (20, .i v6)]) _ _
     replace hS : St (· < g) H0 [(g3 + 1 + 1, .row 22 v8.length)] H g4 := hS
     replace hM : coins_Tell_j2 (coins_Tell_l1 n a0 r1 m3) v6 v8 = some r := hM
     refine Rg 2 ?_
     refine Oi (.i (w64 (v6 + 1))) ?_
     refine Om (.i (w64 (v6 + 1))) ?_
     refine Ni ?_
     exact w_round (v8, w64 (v6 + 1)) (Nat.lt_succ_self _) (.k (.k (.cons (.sl _ _ _) (.k .nil)))) ⟨(hS.keep [false] rfl).up (by omega), hM⟩
    ·refine r_block ?_
     refine Sq ?_
     refine Rg 1 ?_
     refine Oa (.sl .nil 0 []) ?_
     refine Ni ?_
     refine w_own [(1, .ep (Wheel.cells a0)), (4, .ep (Wheel_.cells r1.1.1)), (6, .sl .no 1 (v5.map (cL 1 cI))), (7, .sl (.id (g3 + 1 + 1)) 1 (([] : List (List Int)).map (cL 1 cI))), (20, .i v6)] 7 1 22 hS (by omega) (by decide) rfl (.k (.k (.k (.k (.k .nil))))) fun H hS => ?_
     refine w_join (J := (List (List Int))) (fun j => [(1, .ep (Wheel.cells a0)), (4, .ep (Wheel_.cells r1.1.1)), (7, .sl (.id (g3 + 1 + 1)) 1 (j.map (cL 1 cI))), (20, .i v6)]) (fun j H' g' => St (· < g) H0 [(g3 + 1 + 1, .row 22 j.length)] H' g' ∧ coins_Tell_j3 (coins_Tell_l1 n a0 r1 m3) v6 j = some r) ?_ ?_
     ·rintro v9 H g5 ⟨hS, hM⟩
      change wpA _ _ _ _ (Fr.of [(1, .ep (Wheel.cells a0)), (4, .ep (Wheel_.cells r1.1.1)), (7, .sl (.id (g3 + 1 + 1)) 1 (v9.map (cL 1 cI))), (20, .i v6)]) _ _
      replace hS : St (· < g) H0 [(g3 + 1 + 1, .row 22 v9.length)] H g5 := hS
      replace hM : coins_Tell_j3 (coins_Tell_l1 n a0 r1 m3) v6 v9 = some r := hM
      refine Rg 2 ?_
      refine Om (.sl (.id (g3 + 1 + 1)) 1 (v9.map (cL 1 cI))) ?_
      refine Oa (.sl (.id (g3 + 1 + 1)) 1 (v9.map (cL 1 cI))) ?_
      refine Ni ?_
      refine r_blk_normal ?_
      exact w_goto v9 (.k (.k (.k (.k .nil)))) ⟨(hS.keep [true] rfl).up (by omega), hM⟩
     ·refine Sq ?_
      refine Rg 3 ?_
      refine Om (.sl .no 1 (v5.map (cL 1 cI))) ?_
      refine o_len (n := v5.length) (by decide) rfl (List.length_map _) ty_isl116 ?_
      refine Om (.i 0) ?_
      refine Ni ?_
      refine Ws ?_
      refine r_block ?_
      refine w_loop (V := (List (List Int)) × Int) (fun v => [(1, .ep (Wheel.cells a0)), (4, .ep (Wheel_.cells r1.1.1)), (7, .sl (.id (g3 + 1 + 1)) 1 (v.1.map (cL 1 cI))), (20, .i v6), (22, .sl .no 1 (v5.map (cL 1 cI))), (23, .i (v5.length : Int)), (24, .i v.2)]) (fun v m6 H' g' => St (· < g) H0 [(g3 + 1 + 1, .row 22 v.1.length)] H' g' ∧ coins_Tell_l2 n (coins_Tell_l1 n a0 r1 m3) a0 r1 v5 v6 m6 v.1 v.2 = some r) (n := n) (([] : List (List Int)), 0) (.k (.k (.k (.k (.k (.k (.k .nil))))))) ⟨(hS.keep [true] rfl).up (by omega), hM⟩ ?_
      rintro ⟨v10, v11⟩ m6 H g6 ⟨hS, hM⟩
      obtain _ | m6 := m6
      ·exact nomatch (show none = some _ from hM)
      change wpA _ _ _ _ (Fr.of [(1, .ep (Wheel.cells a0)), (4, .ep (Wheel_.cells r1.1.1)), (7, .sl (.id (g3 + 1 + 1)) 1 (v10.map (cL 1 cI))), (20, .i v6), (22, .sl .no 1 (v5.map (cL 1 cI))), (23, .i (v5.length : Int)), (24, .i v11)]) _ _
      replace hS : St (· < g) H0 [(g3 + 1 + 1, .row 22 v10.length)] H g6 := hS
      replace hM : coins_Tell_l2_b n (coins_Tell_l1 n a0 r1 m3) a0 r1 v5 v6 (coins_Tell_l2 n (coins_Tell_l1 n a0 r1 m3) a0 r1 v5 v6 m6) v10 v11 = some r := hM
      refine Sq ?_
      refine Rg 1 ?_
      refine Oi (.b (decide (v11 < (v5.length : Int)))) ?_
      refine Ni ?_
      refine Ws ?_
      refine Sq ?_
      rcases bft (decide (v11 < (v5.length : Int))) with hb12 | hb12
      ·replace hM := ifT hM hb12
       refine Ct hb12 ?_
       refine r_skip ?_
       refine Ws ?_
       refine w_join (J := (List (List Int))) (fun j => [(1, .ep (Wheel.cells a0)), (4, .ep (Wheel_.cells r1.1.1)), (7, .sl (.id (g3 + 1 + 1)) 1 (j.map (cL 1 cI))), (20, .i v6), (22, .sl .no 1 (v5.map (cL 1 cI))), (23, .i (v5.length : Int)), (24, .i v11)]) (fun j H' g' => St (· < g) H0 [(g3 + 1 + 1, .row 22 j.length)] H' g' ∧ coins_Tell_j4 (coins_Tell_l2 n (coins_Tell_l1 n a0 r1 m3) a0 r1 v5 v6 m6) v11 j = some r) ?_ ?_
       ·rintro v13 H g7 ⟨hS, hM⟩
        change wpA _ _ _ _ (Fr.of [(1, .ep (Wheel.cells a0)), (4, .ep (Wheel_.cells r1.1.1)), (7, .sl (.id (g3 + 1 + 1)) 1 (v13.map (cL 1 cI))), (20, .i v6), (22, .sl .no 1 (v5.map (cL 1 cI))), (23, .i (v5.length : Int)), (24, .i v11)]) _ _
        replace hS : St (· < g) H0 [(g3 + 1 + 1, .row 22 v13.length)] H g7 := hS
        replace hM : coins_Tell_j4 (coins_Tell_l2 n (coins_Tell_l1 n a0 r1 m3) a0 r1 v5 v6 m6) v11 v13 = some r := hM
        refine Rg 2 ?_
        refine Oi (.i (w64 (v11 + 1))) ?_
        refine Om (.i (w64 (v11 + 1))) ?_
        refine Ni ?_
        exact w_round (v13, w64 (v11 + 1)) (Nat.lt_succ_self _) (.k (.k (.k (.k (.k (.k (.k .nil))))))) ⟨(hS.keep [true] rfl).up (by omega), hM⟩
       ·refine r_block ?_
        refine Sq ?_
        refine Rg 3 ?_
        obtain ⟨x14, hx14, hM⟩ := bindE hM
        refine o_index (xs := v5) (f := (cL 1 cI)) (z := v11) (u := x14) (by decide) rfl rfl ty_es116 hx14 ?_
        refine Olp (.sl .no 1 (x14.map cI)) ty_agg22 ty_sc22 ?_
        refine Oa (.sl .no 1 (x14.map cI)) ?_
        refine Ni ?_
        refine Ws ?_
        refine Sq ?_
        refine Sq ?_
        refine Rg 3 ?_
        refine Olg (.agg (Wheel_.cells r1.1.1)) ty_agg71 ?_
        refine Om (.sl .no 1 (x14.map cI)) ?_
        obtain ⟨r15, hr15, hM⟩ := bindE hM
        refine o_call (bs := [.agg (Wheel_.cells r1.1.1), .sl .no 1 (x14.map cI)]) (by decide) rfl rfl ((W_coins_wheel_tells hr15).le (.k (.k .nil))) ?_
        refine Ni ?_
        refine Ws ?_
        rcases bft r15 with hb16 | hb16
        ·replace hM := ifT hM hb16
         refine Ct hb16 ?_
         refine Sq ?_
         refine Rg 3 ?_
         refine Om (.sl .no 1 (x14.map cI)) ?_
         refine Oa (.sl .no 1 (x14.map cI)) ?_
         refine Oa (.i 0) ?_
         refine Ni ?_
         replace hS := hS.keep (L' := []) [false] rfl
         refine Ws ?_
         refine r_ret ?_
         refine r_then_ret ?_
         refine r_blk_ret ?_
         refine w_goto_ret ?_
         refine w_round_ret ?_
         refine r_blk_ret ?_
         refine w_goto_ret ?_
         refine r_blk_ret ?_
         refine w_goto_ret ?_
         refine w_round_ret ?_
         refine r_blk_ret ?_
         refine w_goto_ret ?_
         refine w_end (x := .tup [.sl .no 1 (x14.map cI), .i 0]) (f := fun r => .tup [.sl .no 1 (r.1.map cI), .i r.2]) (.inr rfl) ?_ (.refl _) (Option.some.inj hM) hS
         exact (res_two (res_tmp (x := .sl .no 1 (x14.map cI)) rfl) (res_tmp (x := .i 0) rfl))
        ·replace hM := ifF hM hb16
         refine Cf hb16 ?_
         refine r_skip ?_
         refine Ws ?_
         refine Sq ?_
         refine Rg 4 ?_
         refine Of ((Wheel.cells a0)) ty_fo24_2 ?_
         refine Olp (.sl .no 1 (a0.Coins.map cI)) ty_agg22 ty_sc22 ?_
         refine o_len (n := a0.Coins.length) (by decide) rfl (List.length_map _) ty_isl22 ?_
         refine Om (.i 0) ?_
         refine Ni ?_
         refine Ws ?_
         refine r_block ?_
         refine w_loop (V := (List (List Int)) × Int) (fun v => [(1, .ep (Wheel.cells a0)), (4, .ep (Wheel_.cells r1.1.1)), (7, .sl (.id (g3 + 1 + 1)) 1 (v.1.map (cL 1 cI))), (9, .sl .no 1 (x14.map cI)), (20, .i v6), (22, .sl .no 1 (v5.map (cL 1 cI))), (23, .i (v5.length : Int)), (24, .i v11), (34, .i (a0.Coins.length : Int)), (35, .i v.2)]) (fun v m8 H' g' => St (· < g) H0 [(g3 + 1 + 1, .row 22 v.1.length)] H' g' ∧ coins_Tell_l3 (coins_Tell_l2 n (coins_Tell_l1 n a0 r1 m3) a0 r1 v5 v6 m6) a0 v11 x14 m8 v.1 v.2 = some r) (n := n) (v10, 0) (.k (.k (.k (.k (.k (.k (.k (.k (.k (.k .nil)))))))))) ⟨(hS.keep [true] rfl).up (by omega), hM⟩ ?_
         rintro ⟨v17, v18⟩ m8 H g8 ⟨hS, hM⟩
         obtain _ | m8 := m8
         ·exact nomatch (show none = some _ from hM)
         change wpA _ _ _ _ (Fr.of [(1, .ep (Wheel.cells a0)), (4, .ep (Wheel_.cells r1.1.1)), (7, .sl (.id (g3 + 1 + 1)) 1 (v17.map (cL 1 cI))), (9, .sl .no 1 (x14.map cI)), (20, .i v6), (22, .sl .no 1 (v5.map (cL 1 cI))), (23, .i (v5.length : Int)), (24, .i v11), (34, .i (a0.Coins.length : Int)), (35, .i v18)]) _ _
         replace hS : St (· < g) H0 [(g3 + 1 + 1, .row 22 v17.length)] H g8 := hS
         replace hM : coins_Tell_l3_b (coins_Tell_l2 n (coins_Tell_l1 n a0 r1 m3) a0 r1 v5 v6 m6) a0 v11 x14 (coins_Tell_l3 (coins_Tell_l2 n (coins_Tell_l1 n a0 r1 m3) a0 r1 v5 v6 m6) a0 v11 x14 m8) v17 v18 = some r := hM
         refine Sq ?_
         refine Rg 1 ?_
         refine Oi (.b (decide (v18 < (a0.Coins.length : Int)))) ?_
         refine Ni ?_
         refine Ws ?_
         refine Sq ?_
         rcases bft (decide (v18 < (a0.Coins.length : Int))) with hb19 | hb19
         ·replace hM := ifT hM hb19
          refine Ct hb19 ?_
          refine r_skip ?_
          refine Ws ?_
          refine Sq ?_
          refine r_block ?_
          refine Sq ?_
          refine Rg 2 ?_
          refine Om (.i v18) ?_
          refine Oa (.i v18) ?_
          refine Ni ?_
          refine Ws ?_
          refine Rg 9 ?_
          refine Om (.sl (.id (g3 + 1 + 1)) 1 (v17.map (cL 1 cI))) ?_
          refine Om (.sl .no 1 (x14.map cI)) ?_
          obtain ⟨l20, hl20, hM⟩ := bindE hM
          refine o_fresh (bs := [.sl .no 1 (x14.map cI)]) hS (by decide) rfl rfl ((W_slices_Clone_int hl20).le (.k .nil)) (by omega) fun H hS => ?_
          rw [List.length_map] at hS
          refine Om (.i v18) ?_
          refine o_buildSlice (es := [[.i v18]]) hS (by decide) ty_es22 ty_el22 rfl ty_ef22 rfl (by decide) (by omega) fun H hS => ?_
          obtain ⟨l21, hl21, hM⟩ := bindE hM
          refine o_append (xs := l20) (ys := ([v18] : List Int)) (zs := l21) (f := cI) (L' := [(g8 + 1 + 2 + 4, .row 3 1), (g8 + 1 + 2 + 2, .row 3 l21.length), (g3 + 1 + 1, .row 22 v17.length)]) 1 hS (by decide) rfl rfl rfl rfl .no ty_es22 ty_el22 ty_ef22 hl21 rfl fun H hS => ?_
          refine o_buildSliceW (es := [[.sl (.id (g8 + 1 + 2 + 2)) 1 (l21.map cI)]]) (es' := [[.sl .no 1 (l21.map cI)]]) hS (by decide) ty_es116 ty_el116 rfl ty_ef116 rfl (by decide) (by omega) (le_elems (lell_one (.cons (.sl _ _ _) .nil))) fun H hS => ?_
          obtain ⟨l22, hl22, hM⟩ := bindE hM
          refine o_append (xs := v17) (ys := ([l21] : List (List Int))) (zs := l22) (f := (cL 1 cI)) (L' := [(g8 + 1 + 2 + 6, .row 22 1), (g8 + 1 + 2 + 4, .row 3 1), (g8 + 1 + 2 + 2, .row 3 l21.length), (g3 + 1 + 1, .row 22 l22.length)]) 3 hS (by decide) rfl rfl rfl rfl .no ty_es116 ty_el116 ty_ef116 hl22 rfl fun H hS => ?_
          refine Oa (.sl (.id (g3 + 1 + 1)) 1 (l22.map (cL 1 cI))) ?_
          refine Ni ?_
          refine r_blk_normal ?_
          replace hS := hS.keep (L' := [(g3 + 1 + 1, .row 22 l22.length)]) [false, false, false, true] rfl
          refine Ws ?_
          refine Rg 2 ?_
          refine Oi (.i (w64 (v18 + 1))) ?_
          refine Om (.i (w64 (v18 + 1))) ?_
          refine Ni ?_
          exact w_round (l22, w64 (v18 + 1)) (Nat.lt_succ_self _) (.k (.k (.k (.k (.k (.k (.k (.k (.k (.k .nil)))))))))) ⟨(hS.keep [true] rfl).up (by omega), hM⟩
         ·replace hM := ifF hM hb19
          refine Cf hb19 ?_
          refine r_exit ?_
          refine r_then_exit ?_
          refine w_round_exit ?_
          refine r_blk_exit ?_
          refine r_blk_normal ?_
          exact w_goto v17 (.k (.k (.k (.k (.k (.k (.k .nil))))))) ⟨(hS.keep [true] rfl).up (by omega), hM⟩
      ·replace hM := ifF hM hb12
       refine Cf hb12 ?_
       refine r_exit ?_
       refine r_then_exit ?_
       refine w_round_exit ?_
       refine r_blk_exit ?_
       exact w_goto v10 (.k (.k (.k (.k .nil)))) ⟨(hS.keep [true] rfl).up (by omega), hM⟩
   ·replace hM := ifF hM hb7
    refine Cf hb7 ?_
    refine r_exit ?_
    refine r_then_exit ?_
    refine w_round_exit ?_
    refine r_blk_exit ?_
    exact w_goto () .nil ⟨(hS.keep [] rfl).up (by omega), hM⟩
theorem W_ref01_sameSeen {n : Nat} {a0 : List Seen} {a1 : List Seen} {r : Bool} (hM : ref01_sameSeen n a0 a1 = some r) : PureSat Try.prog 94 [.sl .no 2 (a0.map Seen.cells), .sl .no 2 (a1.map Seen.cells)] (.b r) := by
 refine pure_of_wp mixed Try.func94 rfl (by decide) Try.ntmps94 (by simp) ?pure fun H0 g hf => ?_
 case pure => exact .v _
 rw [frame0_of]
 change wpA _ _ _ _ (Fr.of [(0, .sl .no 2 (a0.map Seen.cells)), (1, .sl .no 2 (a1.map Seen.cells))]) H0 g
 have hS := St.start hf
 refine Sq ?_
 refine Rg 1 ?_
 refine Oa (.b false) ?_
 refine Ni ?_
 refine Ws ?_
 refine w_join (J := Unit) (fun j => []) (fun j H' g' => St (· < g) H0 [] H' g' ∧ ref01_sameSeen_j1 = some r) ?_ ?_
 ·rintro _ H g1 ⟨hS, hM⟩
  change wpA _ _ _ _ (Fr.of []) _ _
  replace hS : St (· < g) H0 [] H g1 := hS
  replace hM : ref01_sameSeen_j1 = some r := hM
  refine Sq ?_
  refine Rg 1 ?_
  refine Oa (.b true) ?_
  refine Ni ?_
  refine Ws ?_
  refine r_ret ?_
  refine w_end (x := .b true) (f := fun r => .b r) (.inr rfl) ?_ (.refl _) (Option.some.inj hM) hS
  exact (res_one (res_tmp (x := .b true) rfl))
 ·refine Sq ?_
  refine Rg 1 ?_
  refine Oa (.i 0) ?_
  refine Ni ?_
  refine Ws ?_
  refine r_block ?_
  refine w_loop (V := Int) (fun v => [(0, .sl .no 2 (a0.map Seen.cells)), (1, .sl .no 2 (a1.map Seen.cells)), (5, .i v)]) (fun v m2 H' g' => St (· < g) H0 [] H' g' ∧ ref01_sameSeen_l1 a0 a1 m2 v = some r) (n := n) 0 (.k (.k (.k .nil))) ⟨(hS.keep [] rfl).up (by omega), hM⟩ ?_
  rintro v1 m2 H g2 ⟨hS, hM⟩
  obtain _ | m2 := m2
  ·exact nomatch (show none = some _ from hM)
  change wpA _ _ _ _ (Fr.of [(0, .sl .no 2 (a0.map Seen.cells)), (1, .sl .no 2 (a1.map Seen.cells)), (5, .i v1)]) _ _
  replace hS : St (· < g) H0 [] H g2 := hS
  replace hM : ref01_sameSeen_l1_b a0 a1 (ref01_sameSeen_l1 a0 a1 m2) v1 = some r := hM
  refine Sq ?_
  refine Sq ?_
  refine Rg 4 ?_
  refine Om (.i v1) ?_
  refine Om (.sl .no 2 (a0.map Seen.cells)) ?_
  refine o_len (n := a0.length) (by decide) rfl (List.length_map _) ty_isl45 ?_
  refine Oi (.b (decide (v1 < (a0.length : Int)))) ?_
  refine Ni ?_
  refine Ws ?_
  rcases bft (decide (v1 < (a0.length : Int))) with hb2 | hb2
  ·replace hM := ifT hM hb2
   refine Ct hb2 ?_
   refine r_skip ?_
   refine Ws ?_
   refine Sq ?_
   refine r_block ?_
   refine Sq ?_
   have hS0 := hS
   refine r_draw (n := 9) rfl (by kernel_rfl) ?_
   refine Om (.sl .no 2 (a0.map Seen.cells)) ?_
   refine Om (.i v1) ?_
   obtain ⟨x3, hx3, hM⟩ := bindE hM
   refine o_index (xs := a0) (f := Seen.cells) (z := v1) (u := x3) (by decide) rfl rfl ty_es45 hx3 ?_
   refine Olg (.agg [.i x3.Kind, .i x3.Plays]) ty_agg50 ?_
   refine Om (.sl .no 2 (a1.map Seen.cells)) ?_
   refine Om (.i v1) ?_
   obtain ⟨x4, hx4, hM⟩ := bindE hM
   refine o_index (xs := a1) (f := Seen.cells) (z := v1) (u := x4) (by decide) rfl rfl ty_es45 hx4 ?_
   refine Olg (.agg [.i x4.Kind, .i x4.Plays]) ty_agg50 ?_
   refine o_neS (cs := [.i x3.Kind, .i x3.Plays]) (ds := [.i x4.Kind, .i x4.Plays]) (e := ((x3.Kind == x4.Kind) && ((x3.Plays == x4.Plays) && true))) (by decide) rfl rfl ty_flat50 rfl ?_
   refine Ni ?_
   refine Ws ?_
   rcases bft (!((x3.Kind == x4.Kind) && ((x3.Plays == x4.Plays) && true))) with hb5 | hb5
   ·replace hM := ifT hM hb5
    refine Ct hb5 ?_
    refine Sq ?_
    refine Rg 1 ?_
    refine Oa (.b false) ?_
    refine Ni ?_
    refine Ws ?_
    refine r_ret ?_
    refine r_blk_ret ?_
    refine r_then_ret ?_
    refine w_round_ret ?_
    refine r_blk_ret ?_
    refine w_goto_ret ?_
    refine w_end (x := .b false) (f := fun r => .b r) (.inr rfl) ?_ (.refl _) (Option.some.inj hM) hS
    exact (res_one (res_tmp (x := .b false) rfl))
   ·replace hM := ifF hM hb5
    refine Cf hb5 ?_
    refine r_skip ?_
    refine r_blk_normal ?_
    refine Ws ?_
    refine Rg 3 ?_
    refine Om (.i v1) ?_
    refine Oi (.i (w64 (v1 + 1))) ?_
    refine Oa (.i (w64 (v1 + 1))) ?_
    refine Ni ?_
    exact w_round (w64 (v1 + 1)) (Nat.lt_succ_self _) (.k (.k (.k .nil))) ⟨(hS.keep [] rfl).up (by omega), hM⟩
  ·replace hM := ifF hM hb2
   refine Cf hb2 ?_
   refine r_exit ?_
   refine r_then_exit ?_
   refine w_round_exit ?_
   refine r_blk_exit ?_
   exact w_goto () .nil ⟨(hS.keep [] rfl).up (by omega), hM⟩
theorem W_ref01_Tells {n : Nat} {a0 : Wheel} {a1 : List Int} {r : Bool} (hM : ref01_Tells n a0 a1 = some r) : PureSat Try.prog 52 [.agg (Wheel.cells a0), .sl .no 1 (a1.map cI)] (.b r) := by
 refine pure_of_wp mixed Try.func52 rfl (by decide) Try.ntmps52 (by simp) ?pure fun H0 g hf => ?_
 case pure => exact .v _
 rw [frame0_of]
 change wpA _ _ _ _ (Fr.of [(0, .agg (Wheel.cells a0)), (1, .sl .no 1 (a1.map cI))]) H0 g
 have hS := St.start hf
 refine Sq ?_
 refine Rg 2 ?_
 refine o_box (v := .agg (Wheel.cells a0)) (cs := (Wheel.cells a0)) hS (by decide) rfl rfl (by omega) fun H hS => ?_
 refine Oa (.b false) ?_
 refine Ni ?_
 refine w_iceE (L' := []) 0 2 hS rfl rfl rfl fun H hS => ?_
 refine Ws ?_
 refine Sq ?_
 refine Rg 1 ?_
 refine Oa (.sl .nil 0 []) ?_
 refine Ni ?_
 refine w_own [(1, .sl .no 1 (a1.map cI)), (2, .ep (Wheel.cells a0)), (5, .sl (.id (g + 2 + 1)) 1 (([] : List (List Seen)).map (cL 2 Seen.cells)))] 5 1 45 hS (by omega) (by decide) rfl (.k (.k (.k .nil))) fun H hS => ?_
 refine Sq ?_
 refine Rg 1 ?_
 refine Oa (.sl .nil 0 []) ?_
 refine Ni ?_
 refine w_own [(1, .sl .no 1 (a1.map cI)), (2, .ep (Wheel.cells a0)), (5, .sl (.id (g + 2 + 1)) 1 (([] : List (List Seen)).map (cL 2 Seen.cells))), (6, .sl (.id (g + 2 + 1 + 1 + 1)) 1 (([] : List Int).map cI))] 6 1 3 hS (by omega) (by decide) rfl (.k (.k (.k (.k .nil)))) fun H hS => ?_
 refine w_join (J := Unit) (fun j => []) (fun j H' g' => St (· < g) H0 [] H' g' ∧ ref01_Tells_j1 = some r) ?_ ?_
 ·rintro _ H g1 ⟨hS, hM⟩
  change wpA _ _ _ _ (Fr.of []) _ _
  replace hS : St (· < g) H0 [] H g1 := hS
  replace hM : ref01_Tells_j1 = some r := hM
  refine Sq ?_
  refine Rg 1 ?_
  refine Oa (.b true) ?_
  refine Ni ?_
  refine Ws ?_
  refine r_ret ?_
  refine w_end (x := .b true) (f := fun r => .b r) (.inr rfl) ?_ (.refl _) (Option.some.inj hM) hS
  exact (res_one (res_tmp (x := .b true) rfl))
 ·refine Sq ?_
  refine Rg 1 ?_
  refine Oa (.i 0) ?_
  refine Ni ?_
  refine Ws ?_
  refine r_block ?_
  refine w_loop (V := (List (List Seen)) × (List Int) × Int) (fun v => [(1, .sl .no 1 (a1.map cI)), (2, .ep (Wheel.cells a0)), (5, .sl (.id (g + 2 + 1)) 1 (v.1.map (cL 2 Seen.cells))), (6, .sl (.id (g + 2 + 1 + 1 + 1)) 1 (v.2.1.map cI)), (7, .i v.2.2)]) (fun v m2 H' g' => St (· < g) H0 [(g + 2 + 1 + 1 + 1, .row 3 v.2.1.length), (g + 2 + 1, .row 45 v.1.length)] H' g' ∧ ref01_Tells_l1 n a0 a1 m2 v.1 v.2.1 v.2.2 = some r) (n := n) (([] : List (List Seen)), ([] : List Int), 0) (.k (.k (.k (.k (.k .nil))))) ⟨(hS.keep [true, true] rfl).up (by omega), hM⟩ ?_
  rintro ⟨v1, v2, v3⟩ m2 H g2 ⟨hS, hM⟩
  obtain _ | m2 := m2
  ·exact nomatch (show none = some _ from hM)
  change wpA _ _ _ _ (Fr.of [(1, .sl .no 1 (a1.map cI)), (2, .ep (Wheel.cells a0)), (5, .sl (.id (g + 2 + 1)) 1 (v1.map (cL 2 Seen.cells))), (6, .sl (.id (g + 2 + 1 + 1 + 1)) 1 (v2.map cI)), (7, .i v3)]) _ _
  replace hS : St (· < g) H0 [(g + 2 + 1 + 1 + 1, .row 3 v2.length), (g + 2 + 1, .row 45 v1.length)] H g2 := hS
  replace hM : ref01_Tells_l1_b n a0 a1 (ref01_Tells_l1 n a0 a1 m2) v1 v2 v3 = some r := hM
  refine Sq ?_
  refine Sq ?_
  refine Rg 4 ?_
  refine Om (.i v3) ?_
  refine Of ((Wheel.cells a0)) ty_fo24_0 ?_
  refine Olp (.i a0.Round) ty_agg3 ty_sc3 ?_
  refine Oi (.b (decide (v3 < a0.Round))) ?_
  refine Ni ?_
  refine Ws ?_
  rcases bft (decide (v3 < a0.Round)) with hb4 | hb4
  ·replace hM := ifT hM hb4
   refine Ct hb4 ?_
   refine r_skip ?_
   refine Ws ?_
   refine w_join (J := (List (List Seen)) × (List Int)) (fun j => [(1, .sl .no 1 (a1.map cI)), (2, .ep (Wheel.cells a0)), (5, .sl (.id (g + 2 + 1)) 1 (j.1.map (cL 2 Seen.cells))), (6, .sl (.id (g + 2 + 1 + 1 + 1)) 1 (j.2.map cI)), (7, .i v3)]) (fun j H' g' => St (· < g) H0 [(g + 2 + 1 + 1 + 1, .row 3 j.2.length), (g + 2 + 1, .row 45 j.1.length)] H' g' ∧ ref01_Tells_j2 (ref01_Tells_l1 n a0 a1 m2) v3 j.1 j.2 = some r) ?_ ?_
   ·rintro ⟨v5, v6⟩ H g3 ⟨hS, hM⟩
    change wpA _ _ _ _ (Fr.of [(1, .sl .no 1 (a1.map cI)), (2, .ep (Wheel.cells a0)), (5, .sl (.id (g + 2 + 1)) 1 (v5.map (cL 2 Seen.cells))), (6, .sl (.id (g + 2 + 1 + 1 + 1)) 1 (v6.map cI)), (7, .i v3)]) _ _
    replace hS : St (· < g) H0 [(g + 2 + 1 + 1 + 1, .row 3 v6.length), (g + 2 + 1, .row 45 v5.length)] H g3 := hS
    replace hM : ref01_Tells_j2 (ref01_Tells_l1 n a0 a1 m2) v3 v5 v6 = some r := hM
    refine Rg 3 ?_
    refine Om (.i v3) ?_
    refine Oi (.i (w64 (v3 + 1))) ?_
    refine Oa (.i (w64 (v3 + 1))) ?_
    refine Ni ?_
    exact w_round (v5, v6, w64 (v3 + 1)) (Nat.lt_succ_self _) (.k (.k (.k (.k (.k .nil))))) ⟨(hS.keep [true, true] rfl).up (by omega), hM⟩
   ·refine r_block ?_
    refine Sq ?_
    refine Rg 9 ?_
    refine Olg (.agg (Wheel.cells a0)) ty_agg24 ?_
    refine Om (.i v3) ?_
    refine Om (.sl .no 1 (a1.map cI)) ?_
    obtain ⟨r7, hr7, hM⟩ := bindE hM
    refine o_call (bs := [.agg (Wheel.cells a0), .i v3, .sl .no 1 (a1.map cI)]) (by decide) rfl rfl ((W_ref01_What hr7).le (.k (.k (.k .nil)))) ?_
    refine Om (.tup [.sl .no 2 (r7.1.map Seen.cells), .i r7.2]) ?_
    refine Ox (.sl .no 2 (r7.1.map Seen.cells)) ?_
    refine Ox (.i r7.2) ?_
    refine Oa (.sl .no 2 (r7.1.map Seen.cells)) ?_
    refine Oa (.i r7.2) ?_
    refine Ni ?_
    refine Ws ?_
    refine w_join (J := Unit) (fun j => [(1, .sl .no 1 (a1.map cI)), (2, .ep (Wheel.cells a0)), (5, .sl (.id (g + 2 + 1)) 1 (v1.map (cL 2 Seen.cells))), (6, .sl (.id (g + 2 + 1 + 1 + 1)) 1 (v2.map cI)), (7, .i v3), (8, .sl .no 2 (r7.1.map Seen.cells)), (9, .i r7.2)]) (fun j H' g' => St (· < g) H0 [(g + 2 + 1 + 1 + 1, .row 3 v2.length), (g + 2 + 1, .row 45 v1.length)] H' g' ∧ ref01_Tells_j3 (ref01_Tells_l1 n a0 a1 m2) v1 v2 v3 r7 = some r) ?_ ?_
    ·rintro _ H g4 ⟨hS, hM⟩
     change wpA _ _ _ _ (Fr.of [(1, .sl .no 1 (a1.map cI)), (2, .ep (Wheel.cells a0)), (5, .sl (.id (g + 2 + 1)) 1 (v1.map (cL 2 Seen.cells))), (6, .sl (.id (g + 2 + 1 + 1 + 1)) 1 (v2.map cI)), (7, .i v3), (8, .sl .no 2 (r7.1.map Seen.cells)), (9, .i r7.2)]) _ _
     replace hS : St (· < g) H0 [(g + 2 + 1 + 1 + 1, .row 3 v2.length), (g + 2 + 1, .row 45 v1.length)] H g4 := hS
     replace hM : ref01_Tells_j3 (ref01_Tells_l1 n a0 a1 m2) v1 v2 v3 r7 = some r := hM
     refine Rg 10 ?_
     refine Om (.sl (.id (g + 2 + 1)) 1 (v1.map (cL 2 Seen.cells))) ?_
     refine Om (.sl .no 2 (r7.1.map Seen.cells)) ?_
     refine o_buildSlice (es := [[.sl .no 2 (r7.1.map Seen.cells)]]) hS (by decide) ty_es119 ty_el119 rfl ty_ef119 rfl (by decide) (by omega) fun H hS => ?_
     obtain ⟨l8, hl8, hM⟩ := bindE hM
     refine o_append (xs := v1) (ys := ([r7.1] : List (List Seen))) (zs := l8) (f := (cL 2 Seen.cells)) (L' := [(g4 + 2, .row 45 1), (g + 2 + 1 + 1 + 1, .row 3 v2.length), (g + 2 + 1, .row 45 l8.length)]) 2 hS (by decide) rfl rfl rfl rfl .no ty_es119 ty_el119 ty_ef119 hl8 rfl fun H hS => ?_
     refine Om (.sl (.id (g + 2 + 1 + 1 + 1)) 1 (v2.map cI)) ?_
     refine Om (.i r7.2) ?_
     refine o_buildSlice (es := [[.i r7.2]]) hS (by decide) ty_es22 ty_el22 rfl ty_ef22 rfl (by decide) (by omega) fun H hS => ?_
     obtain ⟨l9, hl9, hM⟩ := bindE hM
     refine o_append (xs := v2) (ys := ([r7.2] : List Int)) (zs := l9) (f := cI) (L' := [(g4 + 6, .row 3 1), (g4 + 2, .row 45 1), (g + 2 + 1 + 1 + 1, .row 3 l9.length), (g + 2 + 1, .row 45 l8.length)]) 2 hS (by decide) rfl rfl rfl rfl .no ty_es22 ty_el22 ty_ef22 hl9 rfl fun H hS => ?_
     refine Oa (.sl (.id (g + 2 + 1)) 1 (l8.map (cL 2 Seen.cells))) ?_
     refine Oa (.sl (.id (g + 2 + 1 + 1 + 1)) 1 (l9.map cI)) ?_
     refine Ni ?_
     refine r_blk_normal ?_
     exact w_goto (l8, l9) (.k (.k (.k (.k (.k .nil))))) ⟨(hS.keep [false, false, true, true] rfl).up (by omega), hM⟩
    ·refine Sq ?_
     refine Rg 1 ?_
     refine Oa (.i 0) ?_
     refine Ni ?_
     refine Ws ?_
     refine r_block ?_
     refine w_loop (V := Int) (fun v => [(1, .sl .no 1 (a1.map cI)), (2, .ep (Wheel.cells a0)), (5, .sl (.id (g + 2 + 1)) 1 (v1.map (cL 2 Seen.cells))), (6, .sl (.id (g + 2 + 1 + 1 + 1)) 1 (v2.map cI)), (7, .i v3), (8, .sl .no 2 (r7.1.map Seen.cells)), (9, .i r7.2), (10, .i v)]) (fun v m5 H' g' => St (· < g) H0 [(g + 2 + 1 + 1 + 1, .row 3 v2.length), (g + 2 + 1, .row 45 v1.length)] H' g' ∧ ref01_Tells_l2 n (ref01_Tells_l1 n a0 a1 m2) v1 v2 v3 r7 m5 v = some r) (n := n) 0 (.k (.k (.k (.k (.k (.k (.k (.k .nil)))))))) ⟨(hS.keep [true, true] rfl).up (by omega), hM⟩ ?_
     rintro v10 m5 H g5 ⟨hS, hM⟩
     obtain _ | m5 := m5
     ·exact nomatch (show none = some _ from hM)
     change wpA _ _ _ _ (Fr.of [(1, .sl .no 1 (a1.map cI)), (2, .ep (Wheel.cells a0)), (5, .sl (.id (g + 2 + 1)) 1 (v1.map (cL 2 Seen.cells))), (6, .sl (.id (g + 2 + 1 + 1 + 1)) 1 (v2.map cI)), (7, .i v3), (8, .sl .no 2 (r7.1.map Seen.cells)), (9, .i r7.2), (10, .i v10)]) _ _
     replace hS : St (· < g) H0 [(g + 2 + 1 + 1 + 1, .row 3 v2.length), (g + 2 + 1, .row 45 v1.length)] H g5 := hS
     replace hM : ref01_Tells_l2_b n (ref01_Tells_l1 n a0 a1 m2) v1 v2 v3 r7 (ref01_Tells_l2 n (ref01_Tells_l1 n a0 a1 m2) v1 v2 v3 r7 m5) v10 = some r := hM
     refine Sq ?_
     refine Sq ?_
     refine Rg 3 ?_
     refine Om (.i v10) ?_
     refine Om (.i v3) ?_
     refine Oi (.b (decide (v10 < v3))) ?_
     refine Ni ?_
     refine Ws ?_
     rcases bft (decide (v10 < v3)) with hb11 | hb11
     ·replace hM := ifT hM hb11
      refine Ct hb11 ?_
      refine r_skip ?_
      refine Ws ?_
      refine Sq ?_
      refine r_block ?_
      refine w_join (J := Bool) (fun j => [(1, .sl .no 1 (a1.map cI)), (2, .ep (Wheel.cells a0)), (5, .sl (.id (g + 2 + 1)) 1 (v1.map (cL 2 Seen.cells))), (6, .sl (.id (g + 2 + 1 + 1 + 1)) 1 (v2.map cI)), (7, .i v3), (8, .sl .no 2 (r7.1.map Seen.cells)), (9, .i r7.2), (10, .i v10), (42, .b j)]) (fun j H' g' => St (· < g) H0 [(g + 2 + 1 + 1 + 1, .row 3 v2.length), (g + 2 + 1, .row 45 v1.length)] H' g' ∧ ref01_Tells_j4 (ref01_Tells_l2 n (ref01_Tells_l1 n a0 a1 m2) v1 v2 v3 r7 m5) v10 j = some r) ?_ ?_
      ·rintro v12 H g6 ⟨hS, hM⟩
       change wpA _ _ _ _ (Fr.of [(1, .sl .no 1 (a1.map cI)), (2, .ep (Wheel.cells a0)), (5, .sl (.id (g + 2 + 1)) 1 (v1.map (cL 2 Seen.cells))), (6, .sl (.id (g + 2 + 1 + 1 + 1)) 1 (v2.map cI)), (7, .i v3), (8, .sl .no 2 (r7.1.map Seen.cells)), (9, .i r7.2), (10, .i v10), (42, .b v12)]) _ _
       replace hS : St (· < g) H0 [(g + 2 + 1 + 1 + 1, .row 3 v2.length), (g + 2 + 1, .row 45 v1.length)] H g6 := hS
       replace hM : ref01_Tells_j4 (ref01_Tells_l2 n (ref01_Tells_l1 n a0 a1 m2) v1 v2 v3 r7 m5) v10 v12 = some r := hM
       rcases bft v12 with hb13 | hb13
       ·replace hM := ifT hM hb13
        refine Ct hb13 ?_
        refine Sq ?_
        refine Rg 1 ?_
        refine Oa (.b false) ?_
        refine Ni ?_
        replace hS := hS.keep (L' := []) [false, false] rfl
        refine Ws ?_
        refine r_ret ?_
        refine r_blk_ret ?_
        refine r_then_ret ?_
        refine w_round_ret ?_
        refine r_blk_ret ?_
        refine w_goto_ret ?_
        refine r_blk_ret ?_
        refine w_goto_ret ?_
        refine w_round_ret ?_
        refine r_blk_ret ?_
        refine w_goto_ret ?_
        refine w_end (x := .b false) (f := fun r => .b r) (.inr rfl) ?_ (.refl _) (Option.some.inj hM) hS
        exact (res_one (res_tmp (x := .b false) rfl))
       ·replace hM := ifF hM hb13
        refine Cf hb13 ?_
        refine r_skip ?_
        refine r_blk_normal ?_
        refine Ws ?_
        refine Rg 3 ?_
        refine Om (.i v10) ?_
        refine Oi (.i (w64 (v10 + 1))) ?_
        refine Oa (.i (w64 (v10 + 1))) ?_
        refine Ni ?_
        exact w_round (w64 (v10 + 1)) (Nat.lt_succ_self _) (.k (.k (.k (.k (.k (.k (.k (.k .nil)))))))) ⟨(hS.keep [true, true] rfl).up (by omega), hM⟩
      ·refine Rg 14 ?_
       refine Om (.sl (.id (g + 2 + 1 + 1 + 1)) 1 (v2.map cI)) ?_
       refine Om (.i v10) ?_
       obtain ⟨x14, hx14, hM⟩ := bindE hM
       refine o_index (xs := v2) (f := cI) (z := v10) (u := x14) (by decide) rfl rfl ty_es22 hx14 ?_
       refine Olp (.i x14) ty_agg3 ty_sc3 ?_
       refine Om (.i r7.2) ?_
       refine Oi (.b (x14 != r7.2)) ?_
       refine Om (.b (x14 != r7.2)) ?_
       rcases bft (x14 != r7.2) with hb15 | hb15
       ·replace hM := ifT hM hb15
        refine Oy (want := true) hb15 ?_
        refine Om (.sl (.id (g + 2 + 1)) 1 (v1.map (cL 2 Seen.cells))) ?_
        refine Oy (want := true) hb15 ?_
        refine Om (.i v10) ?_
        refine Oy (want := true) hb15 ?_
        obtain ⟨x16, hx16, hM⟩ := bindE hM
        refine o_index (xs := v1) (f := (cL 2 Seen.cells)) (z := v10) (u := x16) (by decide) rfl rfl ty_es119 hx16 ?_
        refine Oy (want := true) hb15 ?_
        refine Olp (.sl .no 2 (x16.map Seen.cells)) ty_agg45 ty_sc45 ?_
        refine Oy (want := true) hb15 ?_
        refine Om (.sl .no 2 (r7.1.map Seen.cells)) ?_
        refine Oy (want := true) hb15 ?_
        obtain ⟨r17, hr17, hM⟩ := bindE hM
        refine o_call (bs := [.sl .no 2 (x16.map Seen.cells), .sl .no 2 (r7.1.map Seen.cells)]) (by decide) rfl rfl ((W_ref01_sameSeen hr17).le (.k (.k .nil))) ?_
        refine Pt (.b r17) hb15 ?_
        refine Ni ?_
        exact w_goto r17 (.k (.k (.k (.k (.k (.k (.k (.k (.k .nil))))))))) ⟨(hS.keep [true, true] rfl).up (by omega), hM⟩
       ·replace hM := ifF hM hb15
        refine On (want := true) hb15 ?_
        refine On (want := true) hb15 ?_
        refine On (want := true) hb15 ?_
        refine On (want := true) hb15 ?_
        refine On (want := true) hb15 ?_
        refine On (want := true) hb15 ?_
        refine Pf (.b false) hb15 ?_
        refine Ni ?_
        exact w_goto false (.k (.k (.k (.k (.k (.k (.k (.k (.k .nil))))))))) ⟨(hS.keep [true, true] rfl).up (by omega), hM⟩
     ·replace hM := ifF hM hb11
      refine Cf hb11 ?_
      refine r_exit ?_
      refine r_then_exit ?_
      refine w_round_exit ?_
      refine r_blk_exit ?_
      exact w_goto () (.k (.k (.k (.k (.k (.k (.k .nil))))))) ⟨(hS.keep [true, true] rfl).up (by omega), hM⟩
  ·replace hM := ifF hM hb4
   refine Cf hb4 ?_
   refine r_exit ?_
   refine r_then_exit ?_
   refine w_round_exit ?_
   refine r_blk_exit ?_
   exact w_goto () .nil ⟨(hS.keep [false, false] rfl).up (by omega), hM⟩
theorem W_ref01_lists {n : Nat} {a0 : Wheel} {a1 : Int} {r : (List (List Int))} (hM : ref01_lists n a0 a1 = some r) : PureSat Try.prog 93 [.agg (Wheel.cells a0), .i a1] (.sl .no 1 (r.map (cL 1 cI))) := by
 refine pure_of_wp mixed Try.func93 rfl (by decide) Try.ntmps93 (by simp) ?pure fun H0 g hf => ?_
 case pure => exact .sl _ _ (pures_map (fun x => (pl_cons (.sl _ _ (pures_map (fun x => (pl_cons (.v _) pl_nil)))) pl_nil)))
 rw [frame0_of]
 change wpA _ _ _ _ (Fr.of [(0, .agg (Wheel.cells a0)), (1, .i a1)]) H0 g
 have hS := St.start hf
 refine Sq ?_
 refine Rg 2 ?_
 refine o_box (v := .agg (Wheel.cells a0)) (cs := (Wheel.cells a0)) hS (by decide) rfl rfl (by omega) fun H hS => ?_
 refine Oa (.sl .nil 0 []) ?_
 refine Ni ?_
 refine w_iceE (L' := []) 0 2 hS rfl rfl rfl fun H hS => ?_
 refine Ws ?_
 refine Sq ?_
 refine Rg 2 ?_
 refine o_buildSliceW (es := [[.sl .nil 0 []]]) (es' := [[.sl .no 1 (([] : List Int).map cI)]]) hS (by decide) ty_es116 ty_el116 rfl ty_ef116 rfl (by decide) (by omega) (le_elems (lell_one (.cons (.sl0 _ _ _) .nil))) fun H hS => ?_
 refine Oa (.sl (.id (g + 2 + 0)) 1 (([([] : List Int)] : List (List Int)).map (cL 1 cI))) ?_
 refine Ni ?_
 refine Ws ?_
 refine w_join (J := (List (List Int))) (fun j => [(5, .sl .no 1 (j.map (cL 1 cI)))]) (fun j H' g' => St (· < g) H0 [] H' g' ∧ ref01_lists_j1 j = some r) ?_ ?_
 ·rintro v1 H g1 ⟨hS, hM⟩
  change wpA _ _ _ _ (Fr.of [(5, .sl .no 1 (v1.map (cL 1 cI)))]) _ _
  replace hS : St (· < g) H0 [] H g1 := hS
  replace hM : ref01_lists_j1 v1 = some r := hM
  refine Sq ?_
  refine Rg 2 ?_
  refine Om (.sl .no 1 (v1.map (cL 1 cI))) ?_
  refine Oa (.sl .no 1 (v1.map (cL 1 cI))) ?_
  refine Ni ?_
  refine Ws ?_
  refine r_ret ?_
  refine w_end (x := .sl .no 1 (v1.map (cL 1 cI))) (f := fun r => .sl .no 1 (r.map (cL 1 cI))) (.inr rfl) ?_ (.refl _) (Option.some.inj hM) hS
  exact (res_one (res_tmp (x := .sl .no 1 (v1.map (cL 1 cI))) rfl))
 ·refine Sq ?_
  refine Rg 1 ?_
  refine Oa (.i 0) ?_
  refine Ni ?_
  refine Ws ?_
  refine r_block ?_
  refine w_loop (V := (List (List Int)) × Int) (fun v => [(1, .i a1), (2, .ep (Wheel.cells a0)), (5, .sl .no 1 (v.1.map (cL 1 cI))), (6, .i v.2)]) (fun v m3 H' g' => St (· < g) H0 [] H' g' ∧ ref01_lists_l1 n a0 a1 m3 v.1 v.2 = some r) (n := n) (([([] : List Int)] : List (List Int)), 0) (.k (.k (.cons (.sl _ _ _) (.k .nil)))) ⟨(hS.keep [false] rfl).up (by omega), hM⟩ ?_
  rintro ⟨v4, v5⟩ m3 H g3 ⟨hS, hM⟩
  obtain _ | m3 := m3
  ·exact nomatch (show none = some _ from hM)
  change wpA _ _ _ _ (Fr.of [(1, .i a1), (2, .ep (Wheel.cells a0)), (5, .sl .no 1 (v4.map (cL 1 cI))), (6, .i v5)]) _ _
  replace hS : St (· < g) H0 [] H g3 := hS
  replace hM : ref01_lists_l1_b n a0 a1 (ref01_lists_l1 n a0 a1 m3) v4 v5 = some r := hM
  refine Sq ?_
  refine Sq ?_
  refine Rg 3 ?_
  refine Om (.i v5) ?_
  refine Om (.i a1) ?_
  refine Oi (.b (decide (v5 < a1))) ?_
  refine Ni ?_
  refine Ws ?_
  rcases bft (decide (v5 < a1)) with hb6 | hb6
  ·replace hM := ifT hM hb6
   refine Ct hb6 ?_
   refine r_skip ?_
   refine Ws ?_
   refine w_join (J := (List (List Int))) (fun j => [(1, .i a1), (2, .ep (Wheel.cells a0)), (5, .sl (.id (g3 + 3 + 1)) 1 (j.map (cL 1 cI))), (6, .i v5)]) (fun j H' g' => St (· < g) H0 [(g3 + 3 + 1, .row 22 j.length)] H' g' ∧ ref01_lists_j2 (ref01_lists_l1 n a0 a1 m3) v5 j = some r) ?_ ?_
   ·rintro v7 H g4 ⟨hS, hM⟩
    change wpA _ _ _ _ (Fr.of [(1, .i a1), (2, .ep (Wheel.cells a0)), (5, .sl (.id (g3 + 3 + 1)) 1 (v7.map (cL 1 cI))), (6, .i v5)]) _ _
    replace hS : St (· < g) H0 [(g3 + 3 + 1, .row 22 v7.length)] H g4 := hS
    replace hM : ref01_lists_j2 (ref01_lists_l1 n a0 a1 m3) v5 v7 = some r := hM
    refine Rg 3 ?_
    refine Om (.i v5) ?_
    refine Oi (.i (w64 (v5 + 1))) ?_
    refine Oa (.i (w64 (v5 + 1))) ?_
    refine Ni ?_
    exact w_round (v7, w64 (v5 + 1)) (Nat.lt_succ_self _) (.k (.k (.cons (.sl _ _ _) (.k .nil)))) ⟨(hS.keep [false] rfl).up (by omega), hM⟩
   ·refine r_block ?_
    refine Sq ?_
    refine Rg 1 ?_
    refine Oa (.sl .nil 0 []) ?_
    refine Ni ?_
    refine w_own [(1, .i a1), (2, .ep (Wheel.cells a0)), (5, .sl .no 1 (v4.map (cL 1 cI))), (6, .i v5), (7, .sl (.id (g3 + 3 + 1)) 1 (([] : List (List Int)).map (cL 1 cI)))] 7 1 22 hS (by omega) (by decide) rfl (.k (.k (.k (.k (.k .nil))))) fun H hS => ?_
    refine w_join (J := (List (List Int))) (fun j => [(1, .i a1), (2, .ep (Wheel.cells a0)), (6, .i v5), (7, .sl (.id (g3 + 3 + 1)) 1 (j.map (cL 1 cI)))]) (fun j H' g' => St (· < g) H0 [(g3 + 3 + 1, .row 22 j.length)] H' g' ∧ ref01_lists_j3 (ref01_lists_l1 n a0 a1 m3) v5 j = some r) ?_ ?_
    ·rintro v8 H g5 ⟨hS, hM⟩
     change wpA _ _ _ _ (Fr.of [(1, .i a1), (2, .ep (Wheel.cells a0)), (6, .i v5), (7, .sl (.id (g3 + 3 + 1)) 1 (v8.map (cL 1 cI)))]) _ _
     replace hS : St (· < g) H0 [(g3 + 3 + 1, .row 22 v8.length)] H g5 := hS
     replace hM : ref01_lists_j3 (ref01_lists_l1 n a0 a1 m3) v5 v8 = some r := hM
     refine Rg 2 ?_
     refine Om (.sl (.id (g3 + 3 + 1)) 1 (v8.map (cL 1 cI))) ?_
     refine Oa (.sl (.id (g3 + 3 + 1)) 1 (v8.map (cL 1 cI))) ?_
     refine Ni ?_
     refine r_blk_normal ?_
     exact w_goto v8 (.k (.k (.k (.k .nil)))) ⟨(hS.keep [true] rfl).up (by omega), hM⟩
    ·refine Sq ?_
     refine Rg 1 ?_
     refine Oa (.i 0) ?_
     refine Ni ?_
     refine Ws ?_
     refine r_block ?_
     refine w_loop (V := (List (List Int)) × Int) (fun v => [(1, .i a1), (2, .ep (Wheel.cells a0)), (5, .sl .no 1 (v4.map (cL 1 cI))), (6, .i v5), (7, .sl (.id (g3 + 3 + 1)) 1 (v.1.map (cL 1 cI))), (8, .i v.2)]) (fun v m6 H' g' => St (· < g) H0 [(g3 + 3 + 1, .row 22 v.1.length)] H' g' ∧ ref01_lists_l2 n (ref01_lists_l1 n a0 a1 m3) a0 v4 v5 m6 v.1 v.2 = some r) (n := n) (([] : List (List Int)), 0) (.k (.k (.k (.k (.k (.k .nil)))))) ⟨(hS.keep [true] rfl).up (by omega), hM⟩ ?_
     rintro ⟨v9, v10⟩ m6 H g6 ⟨hS, hM⟩
     obtain _ | m6 := m6
     ·exact nomatch (show none = some _ from hM)
     change wpA _ _ _ _ (Fr.of [(1, .i a1), (2, .ep (Wheel.cells a0)), (5, .sl .no 1 (v4.map (cL 1 cI))), (6, .i v5), (7, .sl (.id (g3 + 3 + 1)) 1 (v9.map (cL 1 cI))), (8, .i v10)]) _ _
     replace hS : St (· < g) H0 [(g3 + 3 + 1, .row 22 v9.length)] H g6 := hS
     replace hM : ref01_lists_l2_b n (ref01_lists_l1 n a0 a1 m3) a0 v4 v5 (ref01_lists_l2 n (ref01_lists_l1 n a0 a1 m3) a0 v4 v5 m6) v9 v10 = some r := hM
     refine Sq ?_
     refine Sq ?_
     refine Rg 4 ?_
     refine Om (.i v10) ?_
     refine Om (.sl .no 1 (v4.map (cL 1 cI))) ?_
     refine o_len (n := v4.length) (by decide) rfl (List.length_map _) ty_isl116 ?_
     refine Oi (.b (decide (v10 < (v4.length : Int)))) ?_
     refine Ni ?_
     refine Ws ?_
     rcases bft (decide (v10 < (v4.length : Int))) with hb11 | hb11
     ·replace hM := ifT hM hb11
      refine Ct hb11 ?_
      refine r_skip ?_
      refine Ws ?_
      refine w_join (J := (List (List Int))) (fun j => [(1, .i a1), (2, .ep (Wheel.cells a0)), (5, .sl .no 1 (v4.map (cL 1 cI))), (6, .i v5), (7, .sl (.id (g3 + 3 + 1)) 1 (j.map (cL 1 cI))), (8, .i v10)]) (fun j H' g' => St (· < g) H0 [(g3 + 3 + 1, .row 22 j.length)] H' g' ∧ ref01_lists_j4 (ref01_lists_l2 n (ref01_lists_l1 n a0 a1 m3) a0 v4 v5 m6) v10 j = some r) ?_ ?_
      ·rintro v12 H g7 ⟨hS, hM⟩
       change wpA _ _ _ _ (Fr.of [(1, .i a1), (2, .ep (Wheel.cells a0)), (5, .sl .no 1 (v4.map (cL 1 cI))), (6, .i v5), (7, .sl (.id (g3 + 3 + 1)) 1 (v12.map (cL 1 cI))), (8, .i v10)]) _ _
       replace hS : St (· < g) H0 [(g3 + 3 + 1, .row 22 v12.length)] H g7 := hS
       replace hM : ref01_lists_j4 (ref01_lists_l2 n (ref01_lists_l1 n a0 a1 m3) a0 v4 v5 m6) v10 v12 = some r := hM
       refine Rg 3 ?_
       refine Om (.i v10) ?_
       refine Oi (.i (w64 (v10 + 1))) ?_
       refine Oa (.i (w64 (v10 + 1))) ?_
       refine Ni ?_
       exact w_round (v12, w64 (v10 + 1)) (Nat.lt_succ_self _) (.k (.k (.k (.k (.k (.k .nil)))))) ⟨(hS.keep [true] rfl).up (by omega), hM⟩
      ·refine r_block ?_
       refine Sq ?_
       refine Rg 1 ?_
       refine Oa (.i 0) ?_
       refine Ni ?_
       refine Ws ?_
       refine r_block ?_
       refine w_loop (V := (List (List Int)) × Int) (fun v => [(1, .i a1), (2, .ep (Wheel.cells a0)), (5, .sl .no 1 (v4.map (cL 1 cI))), (6, .i v5), (7, .sl (.id (g3 + 3 + 1)) 1 (v.1.map (cL 1 cI))), (8, .i v10), (9, .i v.2)]) (fun v m8 H' g' => St (· < g) H0 [(g3 + 3 + 1, .row 22 v.1.length)] H' g' ∧ ref01_lists_l3 (ref01_lists_l2 n (ref01_lists_l1 n a0 a1 m3) a0 v4 v5 m6) a0 v4 v10 m8 v.1 v.2 = some r) (n := n) (v9, 0) (.k (.k (.k (.k (.k (.k (.k .nil))))))) ⟨(hS.keep [true] rfl).up (by omega), hM⟩ ?_
       rintro ⟨v13, v14⟩ m8 H g8 ⟨hS, hM⟩
       obtain _ | m8 := m8
       ·exact nomatch (show none = some _ from hM)
       change wpA _ _ _ _ (Fr.of [(1, .i a1), (2, .ep (Wheel.cells a0)), (5, .sl .no 1 (v4.map (cL 1 cI))), (6, .i v5), (7, .sl (.id (g3 + 3 + 1)) 1 (v13.map (cL 1 cI))), (8, .i v10), (9, .i v14)]) _ _
       replace hS : St (· < g) H0 [(g3 + 3 + 1, .row 22 v13.length)] H g8 := hS
       replace hM : ref01_lists_l3_b (ref01_lists_l2 n (ref01_lists_l1 n a0 a1 m3) a0 v4 v5 m6) a0 v4 v10 (ref01_lists_l3 (ref01_lists_l2 n (ref01_lists_l1 n a0 a1 m3) a0 v4 v5 m6) a0 v4 v10 m8) v13 v14 = some r := hM
       refine Sq ?_
       refine Sq ?_
       refine Rg 5 ?_
       refine Om (.i v14) ?_
       refine Of ((Wheel.cells a0)) ty_fo24_2 ?_
       refine Olp (.sl .no 1 (a0.Coins.map cI)) ty_agg22 ty_sc22 ?_
       refine o_len (n := a0.Coins.length) (by decide) rfl (List.length_map _) ty_isl22 ?_
       refine Oi (.b (decide (v14 < (a0.Coins.length : Int)))) ?_
       refine Ni ?_
       refine Ws ?_
       rcases bft (decide (v14 < (a0.Coins.length : Int))) with hb15 | hb15
       ·replace hM := ifT hM hb15
        refine Ct hb15 ?_
        refine r_skip ?_
        refine Ws ?_
        refine Sq ?_
        refine r_block ?_
        refine Rg 13 ?_
        refine Om (.sl (.id (g3 + 3 + 1)) 1 (v13.map (cL 1 cI))) ?_
        refine o_buildSlice (es := []) hS (by decide) ty_es22 ty_el22 rfl ty_ef22 rfl (by decide) (by omega) fun H hS => ?_
        refine Om (.sl .no 1 (v4.map (cL 1 cI))) ?_
        refine Om (.i v10) ?_
        obtain ⟨x16, hx16, hM⟩ := bindE hM
        refine o_index (xs := v4) (f := (cL 1 cI)) (z := v10) (u := x16) (by decide) rfl rfl ty_es116 hx16 ?_
        refine Olp (.sl .no 1 (x16.map cI)) ty_agg22 ty_sc22 ?_
        obtain ⟨l17, hl17, hM⟩ := bindE hM
        refine o_append (xs := ([] : List Int)) (ys := x16) (zs := l17) (f := cI) (L' := [(g8 + 5 + 1, .row 3 l17.length), (g3 + 3 + 1, .row 22 v13.length)]) 0 hS (by decide) rfl rfl rfl rfl .no ty_es22 ty_el22 ty_ef22 hl17 rfl fun H hS => ?_
        refine Om (.i v14) ?_
        refine o_buildSlice (es := [[.i v14]]) hS (by decide) ty_es22 ty_el22 rfl ty_ef22 rfl (by decide) (by omega) fun H hS => ?_
        obtain ⟨l18, hl18, hM⟩ := bindE hM
        refine o_append (xs := l17) (ys := ([v14] : List Int)) (zs := l18) (f := cI) (L' := [(g8 + 5 + 8, .row 3 1), (g8 + 5 + 1, .row 3 l18.length), (g3 + 3 + 1, .row 22 v13.length)]) 1 hS (by decide) rfl rfl rfl rfl .no ty_es22 ty_el22 ty_ef22 hl18 rfl fun H hS => ?_
        refine o_buildSliceW (es := [[.sl (.id (g8 + 5 + 1)) 1 (l18.map cI)]]) (es' := [[.sl .no 1 (l18.map cI)]]) hS (by decide) ty_es116 ty_el116 rfl ty_ef116 rfl (by decide) (by omega) (le_elems (lell_one (.cons (.sl _ _ _) .nil))) fun H hS => ?_
        obtain ⟨l19, hl19, hM⟩ := bindE hM
        refine o_append (xs := v13) (ys := ([l18] : List (List Int))) (zs := l19) (f := (cL 1 cI)) (L' := [(g8 + 5 + 10, .row 22 1), (g8 + 5 + 8, .row 3 1), (g8 + 5 + 1, .row 3 l18.length), (g3 + 3 + 1, .row 22 l19.length)]) 3 hS (by decide) rfl rfl rfl rfl .no ty_es116 ty_el116 ty_ef116 hl19 rfl fun H hS => ?_
        refine Oa (.sl (.id (g3 + 3 + 1)) 1 (l19.map (cL 1 cI))) ?_
        refine Ni ?_
        refine r_blk_normal ?_
        replace hS := hS.keep (L' := [(g3 + 3 + 1, .row 22 l19.length)]) [false, false, false, true] rfl
        refine Ws ?_
        refine Rg 3 ?_
        refine Om (.i v14) ?_
        refine Oi (.i (w64 (v14 + 1))) ?_
        refine Oa (.i (w64 (v14 + 1))) ?_
        refine Ni ?_
        exact w_round (l19, w64 (v14 + 1)) (Nat.lt_succ_self _) (.k (.k (.k (.k (.k (.k (.k .nil))))))) ⟨(hS.keep [true] rfl).up (by omega), hM⟩
       ·replace hM := ifF hM hb15
        refine Cf hb15 ?_
        refine r_exit ?_
        refine r_then_exit ?_
        refine w_round_exit ?_
        refine r_blk_exit ?_
        refine r_blk_normal ?_
        exact w_goto v13 (.k (.k (.k (.k (.k (.k .nil)))))) ⟨(hS.keep [true] rfl).up (by omega), hM⟩
     ·replace hM := ifF hM hb11
      refine Cf hb11 ?_
      refine r_exit ?_
      refine r_then_exit ?_
      refine w_round_exit ?_
      refine r_blk_exit ?_
      exact w_goto v9 (.k (.k (.k (.k .nil)))) ⟨(hS.keep [true] rfl).up (by omega), hM⟩
  ·replace hM := ifF hM hb6
   refine Cf hb6 ?_
   refine r_exit ?_
   refine r_then_exit ?_
   refine w_round_exit ?_
   refine r_blk_exit ?_
   exact w_goto v4 (.k .nil) ⟨(hS.keep [] rfl).up (by omega), hM⟩
theorem W_ref01_Length {n : Nat} {a0 : Wheel} {r : Int} (hM : ref01_Length n a0 = some r) : PureSat Try.prog 51 [.agg (Wheel.cells a0)] (.i r) := by
 refine pure_of_wp mixed Try.func51 rfl (by decide) Try.ntmps51 (by simp) ?pure fun H0 g hf => ?_
 case pure => exact .v _
 rw [frame0_of]
 change wpA _ _ _ _ (Fr.of [(0, .agg (Wheel.cells a0))]) H0 g
 have hS := St.start hf
 refine Sq ?_
 refine Rg 2 ?_
 refine o_box (v := .agg (Wheel.cells a0)) (cs := (Wheel.cells a0)) hS (by decide) rfl rfl (by omega) fun H hS => ?_
 refine Oa (.i 0) ?_
 refine Ni ?_
 refine w_iceE (L' := []) 0 1 hS rfl rfl rfl fun H hS => ?_
 refine Ws ?_
 refine w_join (J := Unit) (fun j => []) (fun j H' g' => St (· < g) H0 [] H' g' ∧ ref01_Length_j1 = some r) ?_ ?_
 ·rintro _ H g1 ⟨hS, hM⟩
  change wpA _ _ _ _ (Fr.of []) _ _
  replace hS : St (· < g) H0 [] H g1 := hS
  replace hM : ref01_Length_j1 = some r := hM
  refine Sq ?_
  refine Rg 1 ?_
  refine Oa (.i (-1)) ?_
  refine Ni ?_
  refine Ws ?_
  refine r_ret ?_
  refine w_end (x := .i (-1)) (f := fun r => .i r) (.inr rfl) ?_ (.refl _) (Option.some.inj hM) hS
  exact (res_one (res_tmp (x := .i (-1)) rfl))
 ·refine Sq ?_
  refine Rg 1 ?_
  refine Oa (.i 0) ?_
  refine Ni ?_
  refine Ws ?_
  refine r_block ?_
  refine w_loop (V := Int) (fun v => [(1, .ep (Wheel.cells a0)), (3, .i v)]) (fun v m2 H' g' => St (· < g) H0 [] H' g' ∧ ref01_Length_l1 n a0 m2 v = some r) (n := n) 0 (.k (.k .nil)) ⟨(hS.keep [] rfl).up (by omega), hM⟩ ?_
  rintro v1 m2 H g2 ⟨hS, hM⟩
  obtain _ | m2 := m2
  ·exact nomatch (show none = some _ from hM)
  change wpA _ _ _ _ (Fr.of [(1, .ep (Wheel.cells a0)), (3, .i v1)]) _ _
  replace hS : St (· < g) H0 [] H g2 := hS
  replace hM : ref01_Length_l1_b n a0 (ref01_Length_l1 n a0 m2) v1 = some r := hM
  refine Sq ?_
  refine Sq ?_
  refine Rg 2 ?_
  refine Om (.i v1) ?_
  refine Oi (.b (decide (v1 ≤ 4))) ?_
  refine Ni ?_
  refine Ws ?_
  rcases bft (decide (v1 ≤ 4)) with hb2 | hb2
  ·replace hM := ifT hM hb2
   refine Ct hb2 ?_
   refine r_skip ?_
   refine Ws ?_
   refine w_join (J := Unit) (fun j => [(1, .ep (Wheel.cells a0)), (3, .i v1)]) (fun j H' g' => St (· < g) H0 [] H' g' ∧ ref01_Length_j2 (ref01_Length_l1 n a0 m2) v1 = some r) ?_ ?_
   ·rintro _ H g3 ⟨hS, hM⟩
    change wpA _ _ _ _ (Fr.of [(1, .ep (Wheel.cells a0)), (3, .i v1)]) _ _
    replace hS : St (· < g) H0 [] H g3 := hS
    replace hM : ref01_Length_j2 (ref01_Length_l1 n a0 m2) v1 = some r := hM
    refine Rg 3 ?_
    refine Om (.i v1) ?_
    refine Oi (.i (w64 (v1 + 1))) ?_
    refine Oa (.i (w64 (v1 + 1))) ?_
    refine Ni ?_
    exact w_round (w64 (v1 + 1)) (Nat.lt_succ_self _) (.k (.k .nil)) ⟨(hS.keep [] rfl).up (by omega), hM⟩
   ·refine r_block ?_
    refine Sq ?_
    refine Rg 4 ?_
    refine Olg (.agg (Wheel.cells a0)) ty_agg24 ?_
    refine Om (.i v1) ?_
    obtain ⟨r3, hr3, hM⟩ := bindE hM
    refine o_call (bs := [.agg (Wheel.cells a0), .i v1]) (by decide) rfl rfl ((W_ref01_lists hr3).le (.k (.k .nil))) ?_
    refine Oa (.sl .no 1 (r3.map (cL 1 cI))) ?_
    refine Ni ?_
    refine Ws ?_
    refine Sq ?_
    refine Rg 1 ?_
    refine Oa (.i 0) ?_
    refine Ni ?_
    refine Ws ?_
    refine r_block ?_
    refine w_loop (V := Int) (fun v => [(1, .ep (Wheel.cells a0)), (3, .i v1), (4, .sl .no 1 (r3.map (cL 1 cI))), (5, .i v)]) (fun v m4 H' g' => St (· < g) H0 [] H' g' ∧ ref01_Length_l2 n (ref01_Length_l1 n a0 m2) a0 v1 r3 m4 v = some r) (n := n) 0 (.k (.k (.k (.k .nil)))) ⟨(hS.keep [] rfl).up (by omega), hM⟩ ?_
    rintro v4 m4 H g4 ⟨hS, hM⟩
    obtain _ | m4 := m4
    ·exact nomatch (show none = some _ from hM)
    change wpA _ _ _ _ (Fr.of [(1, .ep (Wheel.cells a0)), (3, .i v1), (4, .sl .no 1 (r3.map (cL 1 cI))), (5, .i v4)]) _ _
    replace hS : St (· < g) H0 [] H g4 := hS
    replace hM : ref01_Length_l2_b n (ref01_Length_l1 n a0 m2) a0 v1 r3 (ref01_Length_l2 n (ref01_Length_l1 n a0 m2) a0 v1 r3 m4) v4 = some r := hM
    refine Sq ?_
    refine Sq ?_
    refine Rg 4 ?_
    refine Om (.i v4) ?_
    refine Om (.sl .no 1 (r3.map (cL 1 cI))) ?_
    refine o_len (n := r3.length) (by decide) rfl (List.length_map _) ty_isl116 ?_
    refine Oi (.b (decide (v4 < (r3.length : Int)))) ?_
    refine Ni ?_
    refine Ws ?_
    rcases bft (decide (v4 < (r3.length : Int))) with hb5 | hb5
    ·replace hM := ifT hM hb5
     refine Ct hb5 ?_
     refine r_skip ?_
     refine Ws ?_
     refine Sq ?_
     refine r_block ?_
     refine Sq ?_
     have hS0 := hS
     refine r_draw (n := 6) rfl (by kernel_rfl) ?_
     refine Olg (.agg (Wheel.cells a0)) ty_agg24 ?_
     refine Om (.sl .no 1 (r3.map (cL 1 cI))) ?_
     refine Om (.i v4) ?_
     obtain ⟨x6, hx6, hM⟩ := bindE hM
     refine o_index (xs := r3) (f := (cL 1 cI)) (z := v4) (u := x6) (by decide) rfl rfl ty_es116 hx6 ?_
     refine Olp (.sl .no 1 (x6.map cI)) ty_agg22 ty_sc22 ?_
     obtain ⟨r7, hr7, hM⟩ := bindE hM
     refine o_call (bs := [.agg (Wheel.cells a0), .sl .no 1 (x6.map cI)]) (by decide) rfl rfl ((W_ref01_Tells hr7).le (.k (.k .nil))) ?_
     refine Ni ?_
     refine Ws ?_
     rcases bft r7 with hb8 | hb8
     ·replace hM := ifT hM hb8
      refine Ct hb8 ?_
      refine Sq ?_
      refine Rg 2 ?_
      refine Om (.i v1) ?_
      refine Oa (.i v1) ?_
      refine Ni ?_
      refine Ws ?_
      refine r_ret ?_
      refine r_blk_ret ?_
      refine r_then_ret ?_
      refine w_round_ret ?_
      refine r_blk_ret ?_
      refine r_blk_ret ?_
      refine w_goto_ret ?_
      refine w_round_ret ?_
      refine r_blk_ret ?_
      refine w_goto_ret ?_
      refine w_end (x := .i v1) (f := fun r => .i r) (.inr rfl) ?_ (.refl _) (Option.some.inj hM) hS
      exact (res_one (res_tmp (x := .i v1) rfl))
     ·replace hM := ifF hM hb8
      refine Cf hb8 ?_
      refine r_skip ?_
      refine r_blk_normal ?_
      refine Ws ?_
      refine Rg 3 ?_
      refine Om (.i v4) ?_
      refine Oi (.i (w64 (v4 + 1))) ?_
      refine Oa (.i (w64 (v4 + 1))) ?_
      refine Ni ?_
      exact w_round (w64 (v4 + 1)) (Nat.lt_succ_self _) (.k (.k (.k (.k .nil)))) ⟨(hS.keep [] rfl).up (by omega), hM⟩
    ·replace hM := ifF hM hb5
     refine Cf hb5 ?_
     refine r_exit ?_
     refine r_then_exit ?_
     refine w_round_exit ?_
     refine r_blk_exit ?_
     refine r_blk_normal ?_
     exact w_goto () (.k (.k .nil)) ⟨(hS.keep [] rfl).up (by omega), hM⟩
  ·replace hM := ifF hM hb2
   refine Cf hb2 ?_
   refine r_exit ?_
   refine r_then_exit ?_
   refine w_round_exit ?_
   refine r_blk_exit ?_
   exact w_goto () .nil ⟨(hS.keep [] rfl).up (by omega), hM⟩
theorem W_law01_CoinsTell {n : Nat} {a0 : Wheel} {r : Bool} (hM : law01_CoinsTell n a0 = some r) : PureSat Try.prog 13 [.agg (Wheel.cells a0)] (.b r) := by
 refine pure_of_wp mixed Try.func13 rfl (by decide) Try.ntmps13 (by simp) ?pure fun H0 g hf => ?_
 case pure => exact .v _
 rw [frame0_of]
 change wpA _ _ _ _ (Fr.of [(0, .agg (Wheel.cells a0))]) H0 g
 have hS := St.start hf
 refine Sq ?_
 refine Rg 2 ?_
 refine o_box (v := .agg (Wheel.cells a0)) (cs := (Wheel.cells a0)) hS (by decide) rfl rfl (by omega) fun H hS => ?_
 refine Oa (.b false) ?_
 refine Ni ?_
 refine w_iceE (L' := []) 0 1 hS rfl rfl rfl fun H hS => ?_
 refine Ws ?_
 refine Sq ?_
 refine w_join (J := Bool) (fun j => [(1, .ep (Wheel.cells a0)), (19, .b j)]) (fun j H' g' => St (· < g) H0 [] H' g' ∧ law01_CoinsTell_j1 n a0 j = some r) ?_ ?_
 ·rintro v1 H g1 ⟨hS, hM⟩
  change wpA _ _ _ _ (Fr.of [(1, .ep (Wheel.cells a0)), (19, .b v1)]) _ _
  replace hS : St (· < g) H0 [] H g1 := hS
  replace hM : law01_CoinsTell_j1 n a0 v1 = some r := hM
  rcases bft v1 with hb2 | hb2
  ·replace hM := ifT hM hb2
   refine Ct hb2 ?_
   refine Sq ?_
   refine Rg 2 ?_
   obtain ⟨r3, hr3, hM⟩ := bindE hM
   refine o_call (bs := []) (by decide) rfl rfl ((W_law01_works hr3).le .nil) ?_
   refine Oa (.b r3) ?_
   refine Ni ?_
   refine Ws ?_
   refine r_ret ?_
   refine r_then_ret ?_
   refine w_end (x := .b r3) (f := fun r => .b r) (.inr rfl) ?_ (.refl _) (Option.some.inj hM) hS
   exact (res_one (res_tmp (x := .b r3) rfl))
  ·replace hM := ifF hM hb2
   refine Cf hb2 ?_
   refine r_skip ?_
   refine Ws ?_
   refine Sq ?_
   refine Rg 4 ?_
   refine Olg (.agg (Wheel.cells a0)) ty_agg24 ?_
   obtain ⟨r4, hr4, hM⟩ := bindE hM
   refine o_call (bs := [.agg (Wheel.cells a0)]) (by decide) rfl rfl ((W_ref01_Copy hr4).le (.k .nil)) ?_
   refine o_alloc hS (by decide) ty_zero24 (by omega) fun H hS => ?_
   refine o_store (v := .agg (Wheel.cells r4)) (ns := (Wheel.cells r4)) (L' := [(g1 + 2, .cells (Wheel.cells r4))]) 0 hS rfl rfl .no rfl rfl ty_var24 nlb rfl fun H hS => ?_
   refine Ni ?_
   refine w_iceE (L' := []) 0 3 hS rfl rfl rfl fun H hS => ?_
   refine Ws ?_
   refine Sq ?_
   refine Rg 7 ?_
   refine Olg (.agg (Wheel.cells r4)) ty_agg24 ?_
   obtain ⟨r5, hr5, hM⟩ := bindE hM
   refine o_call (bs := [.agg (Wheel.cells r4)]) (by decide) rfl rfl ((W_coins_Tell hr5).le (.k .nil)) ?_
   refine Om (.tup [.sl .no 1 (r5.1.map cI), .i r5.2]) ?_
   refine Ox (.sl .no 1 (r5.1.map cI)) ?_
   refine Ox (.i r5.2) ?_
   refine Oa (.sl .no 1 (r5.1.map cI)) ?_
   refine Oa (.i r5.2) ?_
   refine Ni ?_
   refine Ws ?_
   refine Sq ?_
   refine w_join (J := Bool) (fun j => [(1, .ep (Wheel.cells a0)), (4, .sl .no 1 (r5.1.map cI)), (5, .i r5.2), (36, .b j)]) (fun j H' g' => St (· < g) H0 [] H' g' ∧ law01_CoinsTell_j2 n a0 r5 j = some r) ?_ ?_
   ·rintro v6 H g2 ⟨hS, hM⟩
    change wpA _ _ _ _ (Fr.of [(1, .ep (Wheel.cells a0)), (4, .sl .no 1 (r5.1.map cI)), (5, .i r5.2), (36, .b v6)]) _ _
    replace hS : St (· < g) H0 [] H g2 := hS
    replace hM : law01_CoinsTell_j2 n a0 r5 v6 = some r := hM
    rcases bft v6 with hb7 | hb7
    ·replace hM := ifT hM hb7
     refine Ct hb7 ?_
     refine Sq ?_
     refine Rg 1 ?_
     refine Oa (.b false) ?_
     refine Ni ?_
     refine Ws ?_
     refine r_ret ?_
     refine r_then_ret ?_
     refine w_end (x := .b false) (f := fun r => .b r) (.inr rfl) ?_ (.refl _) (Option.some.inj hM) hS
     exact (res_one (res_tmp (x := .b false) rfl))
    ·replace hM := ifF hM hb7
     refine Cf hb7 ?_
     refine r_skip ?_
     refine Ws ?_
     refine Sq ?_
     refine Sq ?_
     refine Rg 3 ?_
     refine Olg (.agg (Wheel.cells a0)) ty_agg24 ?_
     obtain ⟨r8, hr8, hM⟩ := bindE hM
     refine o_call (bs := [.agg (Wheel.cells a0)]) (by decide) rfl rfl ((W_ref01_Check hr8).le (.k .nil)) ?_
     refine Oa (.i r8) ?_
     refine Ni ?_
     refine Ws ?_
     refine Sq ?_
     refine Rg 2 ?_
     refine Om (.i r8) ?_
     refine Oi (.b (r8 != 0)) ?_
     refine Ni ?_
     refine Ws ?_
     rcases bft (r8 != 0) with hb9 | hb9
     ·replace hM := ifT hM hb9
      refine Ct hb9 ?_
      refine w_join (J := Bool) (fun j => [(2, .b j)]) (fun j H' g' => St (· < g) H0 [] H' g' ∧ law01_CoinsTell_j3 j = some r) ?_ ?_
      ·rintro v10 H g3 ⟨hS, hM⟩
       change wpA _ _ _ _ (Fr.of [(2, .b v10)]) _ _
       replace hS : St (· < g) H0 [] H g3 := hS
       replace hM : law01_CoinsTell_j3 v10 = some r := hM
       refine r_ret ?_
       refine r_then_ret ?_
       refine w_end (x := .b v10) (f := fun r => .b r) (.inr rfl) ?_ (.refl _) (Option.some.inj hM) hS
       exact (res_one (res_tmp (x := .b v10) rfl))
      ·refine Rg 12 ?_
       refine Om (.i r5.2) ?_
       refine Om (.i r8) ?_
       refine Oi (.b (r5.2 == r8)) ?_
       refine Om (.b (r5.2 == r8)) ?_
       rcases bft (r5.2 == r8) with hb11 | hb11
       ·replace hM := ifT hM hb11
        refine Oy (want := true) hb11 ?_
        refine Om (.sl .no 1 (r5.1.map cI)) ?_
        refine Oy (want := true) hb11 ?_
        refine o_len (n := r5.1.length) (by decide) rfl (List.length_map _) ty_isl22 ?_
        refine Oy (want := true) hb11 ?_
        refine Oi (.b ((r5.1.length : Int) == 0)) ?_
        refine Pt (.b ((r5.1.length : Int) == 0)) hb11 ?_
        refine Om (.b ((r5.1.length : Int) == 0)) ?_
        rcases bft ((r5.1.length : Int) == 0) with hb12 | hb12
        ·replace hM := ifT hM hb12
         refine Oy (want := true) hb12 ?_
         obtain ⟨r13, hr13, hM⟩ := bindE hM
         refine o_call (bs := []) (by decide) rfl rfl ((W_law01_works hr13).le .nil) ?_
         refine Pt (.b r13) hb12 ?_
         refine Oa (.b r13) ?_
         refine Ni ?_
         exact w_goto r13 (.k .nil) ⟨(hS.keep [] rfl).up (by omega), hM⟩
        ·replace hM := ifF hM hb12
         refine On (want := true) hb12 ?_
         refine Pf (.b false) hb12 ?_
         refine Oa (.b false) ?_
         refine Ni ?_
         exact w_goto false (.k .nil) ⟨(hS.keep [] rfl).up (by omega), hM⟩
       ·replace hM := ifF hM hb11
        refine On (want := true) hb11 ?_
        refine On (want := true) hb11 ?_
        refine On (want := true) hb11 ?_
        refine Pf (.b false) hb11 ?_
        refine Om (.b false) ?_
        refine Og ?_
        refine o_pickF (v := .b false) (e := false) (by decide) rfl rfl rfl ?_
        refine Oa (.b false) ?_
        refine Ni ?_
        exact w_goto false (.k .nil) ⟨(hS.keep [] rfl).up (by omega), hM⟩
     ·replace hM := ifF hM hb9
      refine Cf hb9 ?_
      refine r_skip ?_
      refine Ws ?_
      refine Sq ?_
      refine Rg 3 ?_
      refine Olg (.agg (Wheel.cells a0)) ty_agg24 ?_
      obtain ⟨r14, hr14, hM⟩ := bindE hM
      refine o_call (bs := [.agg (Wheel.cells a0)]) (by decide) rfl rfl ((W_ref01_Length hr14).le (.k .nil)) ?_
      refine Oa (.i r14) ?_
      refine Ni ?_
      refine Ws ?_
      refine Sq ?_
      refine Sq ?_
      refine Rg 2 ?_
      refine Om (.i r14) ?_
      refine Oi (.b (decide (r14 < 0))) ?_
      refine Ni ?_
      refine Ws ?_
      rcases bft (decide (r14 < 0)) with hb15 | hb15
      ·replace hM := ifT hM hb15
       refine Ct hb15 ?_
       refine w_join (J := Bool) (fun j => [(2, .b j)]) (fun j H' g' => St (· < g) H0 [] H' g' ∧ law01_CoinsTell_j4 j = some r) ?_ ?_
       ·rintro v16 H g4 ⟨hS, hM⟩
        change wpA _ _ _ _ (Fr.of [(2, .b v16)]) _ _
        replace hS : St (· < g) H0 [] H g4 := hS
        replace hM : law01_CoinsTell_j4 v16 = some r := hM
        refine r_ret ?_
        refine r_then_ret ?_
        refine w_end (x := .b v16) (f := fun r => .b r) (.inr rfl) ?_ (.refl _) (Option.some.inj hM) hS
        exact (res_one (res_tmp (x := .b v16) rfl))
       ·refine Rg 11 ?_
        refine Om (.i r5.2) ?_
        refine Oi (.b (r5.2 == 3)) ?_
        refine Om (.b (r5.2 == 3)) ?_
        rcases bft (r5.2 == 3) with hb17 | hb17
        ·replace hM := ifT hM hb17
         refine Oy (want := true) hb17 ?_
         refine Om (.sl .no 1 (r5.1.map cI)) ?_
         refine Oy (want := true) hb17 ?_
         refine o_len (n := r5.1.length) (by decide) rfl (List.length_map _) ty_isl22 ?_
         refine Oy (want := true) hb17 ?_
         refine Oi (.b ((r5.1.length : Int) == 0)) ?_
         refine Pt (.b ((r5.1.length : Int) == 0)) hb17 ?_
         refine Om (.b ((r5.1.length : Int) == 0)) ?_
         rcases bft ((r5.1.length : Int) == 0) with hb18 | hb18
         ·replace hM := ifT hM hb18
          refine Oy (want := true) hb18 ?_
          obtain ⟨r19, hr19, hM⟩ := bindE hM
          refine o_call (bs := []) (by decide) rfl rfl ((W_law01_works hr19).le .nil) ?_
          refine Pt (.b r19) hb18 ?_
          refine Oa (.b r19) ?_
          refine Ni ?_
          exact w_goto r19 (.k .nil) ⟨(hS.keep [] rfl).up (by omega), hM⟩
         ·replace hM := ifF hM hb18
          refine On (want := true) hb18 ?_
          refine Pf (.b false) hb18 ?_
          refine Oa (.b false) ?_
          refine Ni ?_
          exact w_goto false (.k .nil) ⟨(hS.keep [] rfl).up (by omega), hM⟩
        ·replace hM := ifF hM hb17
         refine On (want := true) hb17 ?_
         refine On (want := true) hb17 ?_
         refine On (want := true) hb17 ?_
         refine Pf (.b false) hb17 ?_
         refine Om (.b false) ?_
         refine Og ?_
         refine o_pickF (v := .b false) (e := false) (by decide) rfl rfl rfl ?_
         refine Oa (.b false) ?_
         refine Ni ?_
         exact w_goto false (.k .nil) ⟨(hS.keep [] rfl).up (by omega), hM⟩
      ·replace hM := ifF hM hb15
       refine Cf hb15 ?_
       refine r_skip ?_
       refine Ws ?_
       refine w_join (J := Bool) (fun j => [(2, .b j)]) (fun j H' g' => St (· < g) H0 [] H' g' ∧ law01_CoinsTell_j5 j = some r) ?_ ?_
       ·rintro v20 H g5 ⟨hS, hM⟩
        change wpA _ _ _ _ (Fr.of [(2, .b v20)]) _ _
        replace hS : St (· < g) H0 [] H g5 := hS
        replace hM : law01_CoinsTell_j5 v20 = some r := hM
        refine r_ret ?_
        refine w_end (x := .b v20) (f := fun r => .b r) (.inr rfl) ?_ (.refl _) (Option.some.inj hM) hS
        exact (res_one (res_tmp (x := .b v20) rfl))
       ·refine Rg 22 ?_
        refine Om (.i r5.2) ?_
        refine Oi (.b (r5.2 == 0)) ?_
        refine Om (.b (r5.2 == 0)) ?_
        rcases bft (r5.2 == 0) with hb21 | hb21
        ·replace hM := ifT hM hb21
         refine Oy (want := true) hb21 ?_
         refine Om (.sl .no 1 (r5.1.map cI)) ?_
         refine Oy (want := true) hb21 ?_
         refine o_len (n := r5.1.length) (by decide) rfl (List.length_map _) ty_isl22 ?_
         refine Oy (want := true) hb21 ?_
         refine Om (.i r14) ?_
         refine Oy (want := true) hb21 ?_
         refine Oi (.b ((r5.1.length : Int) == r14)) ?_
         refine Pt (.b ((r5.1.length : Int) == r14)) hb21 ?_
         refine Om (.b ((r5.1.length : Int) == r14)) ?_
         rcases bft ((r5.1.length : Int) == r14) with hb22 | hb22
         ·replace hM := ifT hM hb22
          refine Oy (want := true) hb22 ?_
          refine Olg (.agg (Wheel.cells a0)) ty_agg24 ?_
          refine Oy (want := true) hb22 ?_
          refine Om (.sl .no 1 (r5.1.map cI)) ?_
          refine Oy (want := true) hb22 ?_
          obtain ⟨r23, hr23, hM⟩ := bindE hM
          refine o_call (bs := [.agg (Wheel.cells a0), .sl .no 1 (r5.1.map cI), .i 0]) (by decide) rfl rfl ((W_ref01_AreKinds hr23).le (.k (.k (.k .nil)))) ?_
          refine Pt (.b r23) hb22 ?_
          refine Om (.b r23) ?_
          rcases bft r23 with hb24 | hb24
          ·replace hM := ifT hM hb24
           refine Oy (want := true) hb24 ?_
           refine Olg (.agg (Wheel.cells a0)) ty_agg24 ?_
           refine Oy (want := true) hb24 ?_
           refine Om (.sl .no 1 (r5.1.map cI)) ?_
           refine Oy (want := true) hb24 ?_
           obtain ⟨r25, hr25, hM⟩ := bindE hM
           refine o_call (bs := [.agg (Wheel.cells a0), .sl .no 1 (r5.1.map cI)]) (by decide) rfl rfl ((W_ref01_Tells hr25).le (.k (.k .nil))) ?_
           refine Pt (.b r25) hb24 ?_
           refine Om (.b r25) ?_
           rcases bft r25 with hb26 | hb26
           ·replace hM := ifT hM hb26
            refine Oy (want := true) hb26 ?_
            obtain ⟨r27, hr27, hM⟩ := bindE hM
            refine o_call (bs := []) (by decide) rfl rfl ((W_law01_works hr27).le .nil) ?_
            refine Pt (.b r27) hb26 ?_
            refine Oa (.b r27) ?_
            refine Ni ?_
            exact w_goto r27 (.k .nil) ⟨(hS.keep [] rfl).up (by omega), hM⟩
           ·replace hM := ifF hM hb26
            refine On (want := true) hb26 ?_
            refine Pf (.b false) hb26 ?_
            refine Oa (.b false) ?_
            refine Ni ?_
            exact w_goto false (.k .nil) ⟨(hS.keep [] rfl).up (by omega), hM⟩
          ·replace hM := ifF hM hb24
           refine On (want := true) hb24 ?_
           refine On (want := true) hb24 ?_
           refine On (want := true) hb24 ?_
           refine Pf (.b false) hb24 ?_
           refine Om (.b false) ?_
           refine Og ?_
           refine o_pickF (v := .b false) (e := false) (by decide) rfl rfl rfl ?_
           refine Oa (.b false) ?_
           refine Ni ?_
           exact w_goto false (.k .nil) ⟨(hS.keep [] rfl).up (by omega), hM⟩
         ·replace hM := ifF hM hb22
          refine On (want := true) hb22 ?_
          refine On (want := true) hb22 ?_
          refine On (want := true) hb22 ?_
          refine Pf (.b false) hb22 ?_
          refine Om (.b false) ?_
          refine Og ?_
          refine Og ?_
          refine Og ?_
          refine o_pickF (v := .b false) (e := false) (by decide) rfl rfl rfl ?_
          refine Om (.b false) ?_
          refine Og ?_
          refine o_pickF (v := .b false) (e := false) (by decide) rfl rfl rfl ?_
          refine Oa (.b false) ?_
          refine Ni ?_
          exact w_goto false (.k .nil) ⟨(hS.keep [] rfl).up (by omega), hM⟩
        ·replace hM := ifF hM hb21
         refine On (want := true) hb21 ?_
         refine On (want := true) hb21 ?_
         refine On (want := true) hb21 ?_
         refine On (want := true) hb21 ?_
         refine Pf (.b false) hb21 ?_
         refine Om (.b false) ?_
         refine Og ?_
         refine Og ?_
         refine Og ?_
         refine o_pickF (v := .b false) (e := false) (by decide) rfl rfl rfl ?_
         refine Om (.b false) ?_
         refine Og ?_
         refine Og ?_
         refine Og ?_
         refine o_pickF (v := .b false) (e := false) (by decide) rfl rfl rfl ?_
         refine Om (.b false) ?_
         refine Og ?_
         refine o_pickF (v := .b false) (e := false) (by decide) rfl rfl rfl ?_
         refine Oa (.b false) ?_
         refine Ni ?_
         exact w_goto false (.k .nil) ⟨(hS.keep [] rfl).up (by omega), hM⟩
   ·refine Rg 9 ?_
    refine Olg (.agg (Wheel.cells r4)) ty_agg24 ?_
    refine Olg (.agg (Wheel.cells a0)) ty_agg24 ?_
    obtain ⟨r28, hr28, hM⟩ := bindE hM
    refine o_call (bs := [.agg (Wheel.cells r4), .agg (Wheel.cells a0)]) (by decide) rfl rfl ((W_law01_same hr28).le (.k (.k .nil))) ?_
    refine o_not (e := r28) (by decide) rfl ?_
    refine Om (.b (!r28)) ?_
    rcases bft (!r28) with hb29 | hb29
    ·replace hM := ifT hM hb29
     refine On (want := false) hb29 ?_
     refine On (want := false) hb29 ?_
     refine On (want := false) hb29 ?_
     refine Pt (.b true) hb29 ?_
     refine Ni ?_
     exact w_goto true (.k (.k (.k (.k .nil)))) ⟨(hS.keep [] rfl).up (by omega), hM⟩
    ·replace hM := ifF hM hb29
     refine Oy (want := false) hb29 ?_
     refine Om (.sl .no 1 (r5.1.map cI)) ?_
     refine Oy (want := false) hb29 ?_
     refine o_len (n := r5.1.length) (by decide) rfl (List.length_map _) ty_isl22 ?_
     refine Oy (want := false) hb29 ?_
     refine Oi (.b (decide ((r5.1.length : Int) > 4))) ?_
     refine Pf (.b (decide ((r5.1.length : Int) > 4))) hb29 ?_
     refine Ni ?_
     exact w_goto (decide ((r5.1.length : Int) > 4)) (.k (.k (.k (.k .nil)))) ⟨(hS.keep [] rfl).up (by omega), hM⟩
 ·refine Rg 12 ?_
  refine Olg (.agg (Wheel.cells a0)) ty_agg24 ?_
  obtain ⟨r30, hr30, hM⟩ := bindE hM
  refine o_call (bs := [.agg (Wheel.cells a0)]) (by decide) rfl rfl ((W_law01_far hr30).le (.k .nil)) ?_
  refine Om (.b r30) ?_
  rcases bft r30 with hb31 | hb31
  ·replace hM := ifT hM hb31
   refine On (want := false) hb31 ?_
   refine On (want := false) hb31 ?_
   refine On (want := false) hb31 ?_
   refine On (want := false) hb31 ?_
   refine o_guardU (j := 6) (by decide) rfl ?_
   refine o_guardU (j := 6) (by decide) rfl ?_
   refine o_guardU (j := 6) (by decide) rfl ?_
   refine On (want := false) hb31 ?_
   refine Pt (.b true) hb31 ?_
   refine Ni ?_
   exact w_goto true (.k (.k .nil)) ⟨(hS.keep [] rfl).up (by omega), hM⟩
  ·replace hM := ifF hM hb31
   refine Oy (want := false) hb31 ?_
   refine Olg (.agg (Wheel.cells a0)) ty_agg24 ?_
   refine Oy (want := false) hb31 ?_
   obtain ⟨r32, hr32, hM⟩ := bindE hM
   refine o_call (bs := [.agg (Wheel.cells a0)]) (by decide) rfl rfl ((W_ref01_Check hr32).le (.k .nil)) ?_
   refine Oy (want := false) hb31 ?_
   refine Oi (.b (r32 == 0)) ?_
   refine Oy (want := false) hb31 ?_
   refine Om (.b (r32 == 0)) ?_
   rcases bft (r32 == 0) with hb33 | hb33
   ·replace hM := ifT hM hb33
    refine Oy (want := true) hb33 ?_
    refine Of ((Wheel.cells a0)) ty_fo24_0 ?_
    refine Oy (want := true) hb33 ?_
    refine Olp (.i a0.Round) ty_agg3 ty_sc3 ?_
    refine Oy (want := true) hb33 ?_
    refine Oi (.b (decide (a0.Round > 30))) ?_
    refine Oy (want := false) hb31 ?_
    refine Pt (.b (decide (a0.Round > 30))) hb33 ?_
    refine Pf (.b (decide (a0.Round > 30))) hb31 ?_
    refine Ni ?_
    exact w_goto (decide (a0.Round > 30)) (.k (.k .nil)) ⟨(hS.keep [] rfl).up (by omega), hM⟩
   ·replace hM := ifF hM hb33
    refine On (want := true) hb33 ?_
    refine On (want := true) hb33 ?_
    refine On (want := true) hb33 ?_
    refine Oy (want := false) hb31 ?_
    refine Pf (.b false) hb33 ?_
    refine Pf (.b false) hb31 ?_
    refine Ni ?_
    exact w_goto false (.k (.k .nil)) ⟨(hS.keep [] rfl).up (by omega), hM⟩
end Go.Proofs.Ytapcibbbmeomkaa
