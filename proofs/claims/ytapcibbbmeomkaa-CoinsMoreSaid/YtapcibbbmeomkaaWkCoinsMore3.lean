/-
  The code returns what the functions say (printed by gen.py).
  Conditions: none.
-/
import Derived.Test.YtapcibbbmeomkaaWkCoinsMore2
import Derived.Test.YtapcibbbmeomkaaSh
set_option linter.all false
namespace Go.Proofs.Ytapcibbbmeomkaa
open Go Go.AM Go.Law
set_option linter.unusedVariables false
set_option maxRecDepth 4000
set_option maxHeartbeats 4000000
theorem W_ref01_Rising {n : Nat} {a0 : List Int} {a1 : Int} {a2 : Int} {r : Bool} (hM : ref01_Rising n a0 a1 a2 = some r) : PureSat Try.prog 73 [.sl .no 1 (a0.map cI), .i a1, .i a2] (.b r) := by
 refine pure_of_wp mixed Try.func73 rfl (by decide) Try.ntmps73 (by simp) ?pure fun H0 g hf => ?_
 case pure => exact .v _
 rw [frame0_of]
 change wpA _ _ _ _ (Fr.of [(0, .sl .no 1 (a0.map cI)), (1, .i a1), (2, .i a2)]) H0 g
 have hS := St.start hf
 refine Sq ?_
 refine Rg 1 ?_
 refine Oa (.b false) ?_
 refine Ni ?_
 refine Ws ?_
 refine w_join (J := Unit) (fun j => []) (fun j H' g' => St (· < g) H0 [] H' g' ∧ ref01_Rising_j1 = some r) ?_ ?_
 ·rintro _ H g1 ⟨hS, hM⟩
  change wpA _ _ _ _ (Fr.of []) _ _
  replace hS : St (· < g) H0 [] H g1 := hS
  replace hM : ref01_Rising_j1 = some r := hM
  refine Sq ?_
  refine Rg 1 ?_
  refine Oa (.b true) ?_
  refine Ni ?_
  refine Ws ?_
  refine r_ret ?_
  refine w_end (x := .b true) (f := fun r => .b r) (.inr rfl) ?_ (.refl _) (Option.some.inj hM) hS
  exact (res_one (res_tmp (x := .b true) rfl))
 ·refine Sq ?_
  refine Rg 1 ?_
  refine Oa (.i 0) ?_
  refine Ni ?_
  refine Ws ?_
  refine r_block ?_
  refine w_loop (V := Int) (fun v => [(0, .sl .no 1 (a0.map cI)), (1, .i a1), (2, .i a2), (7, .i v)]) (fun v m2 H' g' => St (· < g) H0 [] H' g' ∧ ref01_Rising_l1 a0 a1 a2 m2 v = some r) (n := n) 0 (.k (.k (.k (.k .nil)))) ⟨(hS.keep [] rfl).up (by omega), hM⟩ ?_
  rintro v1 m2 H g2 ⟨hS, hM⟩
  obtain _ | m2 := m2
  ·exact nomatch (show none = some _ from hM)
  change wpA _ _ _ _ (Fr.of [(0, .sl .no 1 (a0.map cI)), (1, .i a1), (2, .i a2), (7, .i v1)]) _ _
  replace hS : St (· < g) H0 [] H g2 := hS
  replace hM : ref01_Rising_l1_b a0 a1 a2 (ref01_Rising_l1 a0 a1 a2 m2) v1 = some r := hM
  refine Sq ?_
  refine Sq ?_
  refine Rg 4 ?_
  refine Om (.i v1) ?_
  refine Om (.sl .no 1 (a0.map cI)) ?_
  refine o_len (n := a0.length) (by decide) rfl (List.length_map _) ty_isl22 ?_
  refine Oi (.b (decide (v1 < (a0.length : Int)))) ?_
  refine Ni ?_
  refine Ws ?_
  rcases bft (decide (v1 < (a0.length : Int))) with hb2 | hb2
  ·replace hM := ifT hM hb2
   refine Ct hb2 ?_
   refine r_skip ?_
   refine Ws ?_
   refine Sq ?_
   refine r_block ?_
   refine w_join (J := Bool) (fun j => [(0, .sl .no 1 (a0.map cI)), (1, .i a1), (2, .i a2), (7, .i v1), (37, .b j)]) (fun j H' g' => St (· < g) H0 [] H' g' ∧ ref01_Rising_j2 (ref01_Rising_l1 a0 a1 a2 m2) v1 j = some r) ?_ ?_
   ·rintro v3 H g3 ⟨hS, hM⟩
    change wpA _ _ _ _ (Fr.of [(0, .sl .no 1 (a0.map cI)), (1, .i a1), (2, .i a2), (7, .i v1), (37, .b v3)]) _ _
    replace hS : St (· < g) H0 [] H g3 := hS
    replace hM : ref01_Rising_j2 (ref01_Rising_l1 a0 a1 a2 m2) v1 v3 = some r := hM
    rcases bft v3 with hb4 | hb4
    ·replace hM := ifT hM hb4
     refine Ct hb4 ?_
     refine Sq ?_
     refine Rg 1 ?_
     refine Oa (.b false) ?_
     refine Ni ?_
     refine Ws ?_
     refine r_ret ?_
     refine r_blk_ret ?_
     refine r_then_ret ?_
     refine w_round_ret ?_
     refine r_blk_ret ?_
     refine w_goto_ret ?_
     refine w_end (x := .b false) (f := fun r => .b r) (.inr rfl) ?_ (.refl _) (Option.some.inj hM) hS
     exact (res_one (res_tmp (x := .b false) rfl))
    ·replace hM := ifF hM hb4
     refine Cf hb4 ?_
     refine r_skip ?_
     refine r_blk_normal ?_
     refine Ws ?_
     refine Rg 3 ?_
     refine Om (.i v1) ?_
     refine Oi (.i (w64 (v1 + 1))) ?_
     refine Oa (.i (w64 (v1 + 1))) ?_
     refine Ni ?_
     exact w_round (w64 (v1 + 1)) (Nat.lt_succ_self _) (.k (.k (.k (.k .nil)))) ⟨(hS.keep [] rfl).up (by omega), hM⟩
   ·have hS0 := hS
    refine r_draw (n := 24) rfl (by kernel_rfl) ?_
    refine Om (.sl .no 1 (a0.map cI)) ?_
    refine Om (.i v1) ?_
    obtain ⟨x5, hx5, hM⟩ := bindE hM
    refine o_index (xs := a0) (f := cI) (z := v1) (u := x5) (by decide) rfl rfl ty_es22 hx5 ?_
    refine Olp (.i x5) ty_agg3 ty_sc3 ?_
    refine Om (.i a1) ?_
    refine Om (.i a2) ?_
    obtain ⟨r6, hr6, hM⟩ := bindE hM
    refine o_call (bs := [.i x5, .i a1, .i a2]) (by decide) rfl rfl ((W_ref01_Within hr6).le (.k (.k (.k .nil)))) ?_
    refine o_not (e := r6) (by decide) rfl ?_
    refine Om (.b (!r6)) ?_
    rcases bft (!r6) with hb7 | hb7
    ·replace hM := ifT hM hb7
     refine On (want := false) hb7 ?_
     refine On (want := false) hb7 ?_
     refine On (want := false) hb7 ?_
     refine o_guardU (j := 11) (by decide) rfl ?_
     refine o_guardU (j := 11) (by decide) rfl ?_
     refine o_guardU (j := 11) (by decide) rfl ?_
     refine o_guardU (j := 11) (by decide) rfl ?_
     refine o_guardU (j := 11) (by decide) rfl ?_
     refine o_guardU (j := 11) (by decide) rfl ?_
     refine o_guardU (j := 11) (by decide) rfl ?_
     refine o_guardU (j := 11) (by decide) rfl ?_
     refine o_guardU (j := 11) (by decide) rfl ?_
     refine o_guardU (j := 11) (by decide) rfl ?_
     refine On (want := false) hb7 ?_
     refine Pt (.b true) hb7 ?_
     refine Ni ?_
     exact w_goto true (.k (.k (.k (.k (.k .nil))))) ⟨(hS.keep [] rfl).up (by omega), hM⟩
    ·replace hM := ifF hM hb7
     refine Oy (want := false) hb7 ?_
     refine Om (.i v1) ?_
     refine Oy (want := false) hb7 ?_
     refine Oi (.b (decide (v1 > 0))) ?_
     refine Oy (want := false) hb7 ?_
     refine Om (.b (decide (v1 > 0))) ?_
     rcases bft (decide (v1 > 0)) with hb8 | hb8
     ·replace hM := ifT hM hb8
      refine Oy (want := true) hb8 ?_
      refine Om (.sl .no 1 (a0.map cI)) ?_
      refine Oy (want := true) hb8 ?_
      refine Om (.i v1) ?_
      refine Oy (want := true) hb8 ?_
      obtain ⟨x9, hx9, hM⟩ := bindE hM
      refine o_index (xs := a0) (f := cI) (z := v1) (u := x9) (by decide) rfl rfl ty_es22 hx9 ?_
      refine Oy (want := true) hb8 ?_
      refine Olp (.i x9) ty_agg3 ty_sc3 ?_
      refine Oy (want := true) hb8 ?_
      refine Om (.sl .no 1 (a0.map cI)) ?_
      refine Oy (want := true) hb8 ?_
      refine Om (.i v1) ?_
      refine Oy (want := true) hb8 ?_
      refine Oi (.i (w64 (v1 - 1))) ?_
      refine Oy (want := true) hb8 ?_
      obtain ⟨x10, hx10, hM⟩ := bindE hM
      refine o_index (xs := a0) (f := cI) (z := (w64 (v1 - 1))) (u := x10) (by decide) rfl rfl ty_es22 hx10 ?_
      refine Oy (want := true) hb8 ?_
      refine Olp (.i x10) ty_agg3 ty_sc3 ?_
      refine Oy (want := true) hb8 ?_
      refine Oi (.b (decide (x9 ≤ x10))) ?_
      refine Oy (want := false) hb7 ?_
      refine Pt (.b (decide (x9 ≤ x10))) hb8 ?_
      refine Pf (.b (decide (x9 ≤ x10))) hb7 ?_
      refine Ni ?_
      exact w_goto (decide (x9 ≤ x10)) (.k (.k (.k (.k (.k .nil))))) ⟨(hS.keep [] rfl).up (by omega), hM⟩
     ·replace hM := ifF hM hb8
      refine On (want := true) hb8 ?_
      refine On (want := true) hb8 ?_
      refine On (want := true) hb8 ?_
      refine On (want := true) hb8 ?_
      refine On (want := true) hb8 ?_
      refine On (want := true) hb8 ?_
      refine On (want := true) hb8 ?_
      refine On (want := true) hb8 ?_
      refine On (want := true) hb8 ?_
      refine On (want := true) hb8 ?_
      refine Oy (want := false) hb7 ?_
      refine Pf (.b false) hb8 ?_
      refine Pf (.b false) hb7 ?_
      refine Ni ?_
      exact w_goto false (.k (.k (.k (.k (.k .nil))))) ⟨(hS.keep [] rfl).up (by omega), hM⟩
  ·replace hM := ifF hM hb2
   refine Cf hb2 ?_
   refine r_exit ?_
   refine r_then_exit ?_
   refine w_round_exit ?_
   refine r_blk_exit ?_
   exact w_goto () .nil ⟨(hS.keep [] rfl).up (by omega), hM⟩
theorem W_ref01_Check {n : Nat} {a0 : Wheel} {r : Int} (hM : ref01_Check n a0 = some r) : PureSat Try.prog 39 [.agg (Wheel.cells a0)] (.i r) := by
 refine pure_of_wp mixed Try.func39 rfl (by decide) Try.ntmps39 (by simp) ?pure fun H0 g hf => ?_
 case pure => exact .v _
 rw [frame0_of]
 change wpA _ _ _ _ (Fr.of [(0, .agg (Wheel.cells a0))]) H0 g
 have hS := St.start hf
 refine Sq ?_
 refine Rg 2 ?_
 refine o_box (v := .agg (Wheel.cells a0)) (cs := (Wheel.cells a0)) hS (by decide) rfl rfl (by omega) fun H hS => ?_
 refine Oa (.i 0) ?_
 refine Ni ?_
 refine w_iceE (L' := []) 0 1 hS rfl rfl rfl fun H hS => ?_
 refine Ws ?_
 refine Sq ?_
 refine w_join (J := Bool) (fun j => [(32, .b j)]) (fun j H' g' => St (· < g) H0 [] H' g' ∧ ref01_Check_j1 j = some r) ?_ ?_
 ·rintro v1 H g1 ⟨hS, hM⟩
  change wpA _ _ _ _ (Fr.of [(32, .b v1)]) _ _
  replace hS : St (· < g) H0 [] H g1 := hS
  replace hM : ref01_Check_j1 v1 = some r := hM
  rcases bft v1 with hb2 | hb2
  ·replace hM := ifT hM hb2
   refine Ct hb2 ?_
   refine Sq ?_
   refine Rg 1 ?_
   refine Oa (.i 10) ?_
   refine Ni ?_
   refine Ws ?_
   refine r_ret ?_
   refine r_then_ret ?_
   refine w_end (x := .i 10) (f := fun r => .i r) (.inr rfl) ?_ (.refl _) (Option.some.inj hM) hS
   exact (res_one (res_tmp (x := .i 10) rfl))
  ·replace hM := ifF hM hb2
   refine Cf hb2 ?_
   refine r_skip ?_
   refine Ws ?_
   refine Sq ?_
   refine Rg 1 ?_
   refine Oa (.i 0) ?_
   refine Ni ?_
   refine Ws ?_
   refine r_ret ?_
   refine w_end (x := .i 0) (f := fun r => .i r) (.inr rfl) ?_ (.refl _) (Option.some.inj hM) hS
   exact (res_one (res_tmp (x := .i 0) rfl))
 ·refine Rg 30 ?_
  refine Of ((Wheel.cells a0)) ty_fo24_0 ?_
  refine Olp (.i a0.Round) ty_agg3 ty_sc3 ?_
  obtain ⟨r3, hr3, hM⟩ := bindE hM
  refine o_call (bs := [.i a0.Round, .i 1, .i 200]) (by decide) rfl rfl ((W_ref01_Within hr3).le (.k (.k (.k .nil)))) ?_
  refine o_not (e := r3) (by decide) rfl ?_
  refine Om (.b (!r3)) ?_
  rcases bft (!r3) with hb4 | hb4
  ·replace hM := ifT hM hb4
   refine On (want := false) hb4 ?_
   refine On (want := false) hb4 ?_
   refine On (want := false) hb4 ?_
   refine On (want := false) hb4 ?_
   refine Pt (.b true) hb4 ?_
   refine Om (.b true) ?_
   refine Og ?_
   refine Og ?_
   refine Og ?_
   refine Og ?_
   refine Og ?_
   refine Og ?_
   refine o_pickT (v := .b true) (e := true) (by decide) rfl rfl rfl ?_
   refine Om (.b true) ?_
   refine Og ?_
   refine Og ?_
   refine Og ?_
   refine Og ?_
   refine o_pickT (v := .b true) (e := true) (by decide) rfl rfl rfl ?_
   refine Om (.b true) ?_
   refine Og ?_
   refine Og ?_
   refine Og ?_
   refine Og ?_
   refine o_pickT (v := .b true) (e := true) (by decide) rfl rfl rfl ?_
   refine Ni ?_
   exact w_goto true (.k .nil) ⟨(hS.keep [] rfl).up (by omega), hM⟩
  ·replace hM := ifF hM hb4
   refine Oy (want := false) hb4 ?_
   refine Of ((Wheel.cells a0)) ty_fo24_1 ?_
   refine Oy (want := false) hb4 ?_
   refine Olp (.sl .no 1 (a0.Notches.map cI)) ty_agg22 ty_sc22 ?_
   refine Oy (want := false) hb4 ?_
   refine o_len (n := a0.Notches.length) (by decide) rfl (List.length_map _) ty_isl22 ?_
   refine Oy (want := false) hb4 ?_
   refine Oi (.b (decide ((a0.Notches.length : Int) > 12))) ?_
   refine Pf (.b (decide ((a0.Notches.length : Int) > 12))) hb4 ?_
   refine Om (.b (decide ((a0.Notches.length : Int) > 12))) ?_
   rcases bft (decide ((a0.Notches.length : Int) > 12)) with hb5 | hb5
   ·replace hM := ifT hM hb5
    refine On (want := false) hb5 ?_
    refine On (want := false) hb5 ?_
    refine On (want := false) hb5 ?_
    refine On (want := false) hb5 ?_
    refine On (want := false) hb5 ?_
    refine On (want := false) hb5 ?_
    refine Pt (.b true) hb5 ?_
    refine Om (.b true) ?_
    refine Og ?_
    refine Og ?_
    refine Og ?_
    refine Og ?_
    refine o_pickT (v := .b true) (e := true) (by decide) rfl rfl rfl ?_
    refine Om (.b true) ?_
    refine Og ?_
    refine Og ?_
    refine Og ?_
    refine Og ?_
    refine o_pickT (v := .b true) (e := true) (by decide) rfl rfl rfl ?_
    refine Ni ?_
    exact w_goto true (.k .nil) ⟨(hS.keep [] rfl).up (by omega), hM⟩
   ·replace hM := ifF hM hb5
    refine Oy (want := false) hb5 ?_
    refine Of ((Wheel.cells a0)) ty_fo24_1 ?_
    refine Oy (want := false) hb5 ?_
    refine Olp (.sl .no 1 (a0.Notches.map cI)) ty_agg22 ty_sc22 ?_
    refine Oy (want := false) hb5 ?_
    refine Of ((Wheel.cells a0)) ty_fo24_0 ?_
    refine Oy (want := false) hb5 ?_
    refine Olp (.i a0.Round) ty_agg3 ty_sc3 ?_
    refine Oy (want := false) hb5 ?_
    obtain ⟨r6, hr6, hM⟩ := bindE hM
    refine o_call (bs := [.sl .no 1 (a0.Notches.map cI), .i 1, .i a0.Round]) (by decide) rfl rfl ((W_ref01_Rising hr6).le (.k (.k (.k .nil)))) ?_
    refine Oy (want := false) hb5 ?_
    refine o_not (e := r6) (by decide) rfl ?_
    refine Pf (.b (!r6)) hb5 ?_
    refine Om (.b (!r6)) ?_
    rcases bft (!r6) with hb7 | hb7
    ·replace hM := ifT hM hb7
     refine On (want := false) hb7 ?_
     refine On (want := false) hb7 ?_
     refine On (want := false) hb7 ?_
     refine On (want := false) hb7 ?_
     refine Pt (.b true) hb7 ?_
     refine Om (.b true) ?_
     refine Og ?_
     refine Og ?_
     refine Og ?_
     refine Og ?_
     refine o_pickT (v := .b true) (e := true) (by decide) rfl rfl rfl ?_
     refine Ni ?_
     exact w_goto true (.k .nil) ⟨(hS.keep [] rfl).up (by omega), hM⟩
    ·replace hM := ifF hM hb7
     refine Oy (want := false) hb7 ?_
     refine Of ((Wheel.cells a0)) ty_fo24_2 ?_
     refine Oy (want := false) hb7 ?_
     refine Olp (.sl .no 1 (a0.Coins.map cI)) ty_agg22 ty_sc22 ?_
     refine Oy (want := false) hb7 ?_
     refine o_len (n := a0.Coins.length) (by decide) rfl (List.length_map _) ty_isl22 ?_
     refine Oy (want := false) hb7 ?_
     refine Oi (.b (decide ((a0.Coins.length : Int) > 4))) ?_
     refine Pf (.b (decide ((a0.Coins.length : Int) > 4))) hb7 ?_
     refine Om (.b (decide ((a0.Coins.length : Int) > 4))) ?_
     rcases bft (decide ((a0.Coins.length : Int) > 4)) with hb8 | hb8
     ·replace hM := ifT hM hb8
      refine On (want := false) hb8 ?_
      refine On (want := false) hb8 ?_
      refine On (want := false) hb8 ?_
      refine On (want := false) hb8 ?_
      refine Pt (.b true) hb8 ?_
      refine Ni ?_
      exact w_goto true (.k .nil) ⟨(hS.keep [] rfl).up (by omega), hM⟩
     ·replace hM := ifF hM hb8
      refine Oy (want := false) hb8 ?_
      refine Of ((Wheel.cells a0)) ty_fo24_2 ?_
      refine Oy (want := false) hb8 ?_
      refine Olp (.sl .no 1 (a0.Coins.map cI)) ty_agg22 ty_sc22 ?_
      refine Oy (want := false) hb8 ?_
      obtain ⟨r9, hr9, hM⟩ := bindE hM
      refine o_call (bs := [.sl .no 1 (a0.Coins.map cI), .i 1, .i 100]) (by decide) rfl rfl ((W_ref01_Rising hr9).le (.k (.k (.k .nil)))) ?_
      refine Oy (want := false) hb8 ?_
      refine o_not (e := r9) (by decide) rfl ?_
      refine Pf (.b (!r9)) hb8 ?_
      refine Ni ?_
      exact w_goto (!r9) (.k .nil) ⟨(hS.keep [] rfl).up (by omega), hM⟩
theorem W_ref01_In {n : Nat} {a0 : List Int} {a1 : Int} {r : Bool} (hM : ref01_In n a0 a1 = some r) : PureSat Try.prog 27 [.sl .no 1 (a0.map cI), .i a1] (.b r) := by
 refine pure_of_wp mixed Try.func27 rfl (by decide) Try.ntmps27 (by simp) ?pure fun H0 g hf => ?_
 case pure => exact .v _
 rw [frame0_of]
 change wpA _ _ _ _ (Fr.of [(0, .sl .no 1 (a0.map cI)), (1, .i a1)]) H0 g
 have hS := St.start hf
 refine Sq ?_
 refine Rg 1 ?_
 refine Oa (.b false) ?_
 refine Ni ?_
 refine Ws ?_
 refine w_join (J := Unit) (fun j => []) (fun j H' g' => St (· < g) H0 [] H' g' ∧ ref01_In_j1 = some r) ?_ ?_
 ·rintro _ H g1 ⟨hS, hM⟩
  change wpA _ _ _ _ (Fr.of []) _ _
  replace hS : St (· < g) H0 [] H g1 := hS
  replace hM : ref01_In_j1 = some r := hM
  refine Sq ?_
  refine Rg 1 ?_
  refine Oa (.b false) ?_
  refine Ni ?_
  refine Ws ?_
  refine r_ret ?_
  refine w_end (x := .b false) (f := fun r => .b r) (.inr rfl) ?_ (.refl _) (Option.some.inj hM) hS
  exact (res_one (res_tmp (x := .b false) rfl))
 ·refine Sq ?_
  refine Rg 1 ?_
  refine Oa (.i 0) ?_
  refine Ni ?_
  refine Ws ?_
  refine r_block ?_
  refine w_loop (V := Int) (fun v => [(0, .sl .no 1 (a0.map cI)), (1, .i a1), (5, .i v)]) (fun v m2 H' g' => St (· < g) H0 [] H' g' ∧ ref01_In_l1 a0 a1 m2 v = some r) (n := n) 0 (.k (.k (.k .nil))) ⟨(hS.keep [] rfl).up (by omega), hM⟩ ?_
  rintro v1 m2 H g2 ⟨hS, hM⟩
  obtain _ | m2 := m2
  ·exact nomatch (show none = some _ from hM)
  change wpA _ _ _ _ (Fr.of [(0, .sl .no 1 (a0.map cI)), (1, .i a1), (5, .i v1)]) _ _
  replace hS : St (· < g) H0 [] H g2 := hS
  replace hM : ref01_In_l1_b a0 a1 (ref01_In_l1 a0 a1 m2) v1 = some r := hM
  refine Sq ?_
  refine Sq ?_
  refine Rg 4 ?_
  refine Om (.i v1) ?_
  refine Om (.sl .no 1 (a0.map cI)) ?_
  refine o_len (n := a0.length) (by decide) rfl (List.length_map _) ty_isl22 ?_
  refine Oi (.b (decide (v1 < (a0.length : Int)))) ?_
  refine Ni ?_
  refine Ws ?_
  rcases bft (decide (v1 < (a0.length : Int))) with hb2 | hb2
  ·replace hM := ifT hM hb2
   refine Ct hb2 ?_
   refine r_skip ?_
   refine Ws ?_
   refine Sq ?_
   refine r_block ?_
   refine Sq ?_
   refine Rg 6 ?_
   refine Om (.sl .no 1 (a0.map cI)) ?_
   refine Om (.i v1) ?_
   obtain ⟨x3, hx3, hM⟩ := bindE hM
   refine o_index (xs := a0) (f := cI) (z := v1) (u := x3) (by decide) rfl rfl ty_es22 hx3 ?_
   refine Olp (.i x3) ty_agg3 ty_sc3 ?_
   refine Om (.i a1) ?_
   refine Oi (.b (x3 == a1)) ?_
   refine Ni ?_
   refine Ws ?_
   rcases bft (x3 == a1) with hb4 | hb4
   ·replace hM := ifT hM hb4
    refine Ct hb4 ?_
    refine Sq ?_
    refine Rg 1 ?_
    refine Oa (.b true) ?_
    refine Ni ?_
    refine Ws ?_
    refine r_ret ?_
    refine r_blk_ret ?_
    refine r_then_ret ?_
    refine w_round_ret ?_
    refine r_blk_ret ?_
    refine w_goto_ret ?_
    refine w_end (x := .b true) (f := fun r => .b r) (.inr rfl) ?_ (.refl _) (Option.some.inj hM) hS
    exact (res_one (res_tmp (x := .b true) rfl))
   ·replace hM := ifF hM hb4
    refine Cf hb4 ?_
    refine r_skip ?_
    refine r_blk_normal ?_
    refine Ws ?_
    refine Rg 3 ?_
    refine Om (.i v1) ?_
    refine Oi (.i (w64 (v1 + 1))) ?_
    refine Oa (.i (w64 (v1 + 1))) ?_
    refine Ni ?_
    exact w_round (w64 (v1 + 1)) (Nat.lt_succ_self _) (.k (.k (.k .nil))) ⟨(hS.keep [] rfl).up (by omega), hM⟩
  ·replace hM := ifF hM hb2
   refine Cf hb2 ?_
   refine r_exit ?_
   refine r_then_exit ?_
   refine w_round_exit ?_
   refine r_blk_exit ?_
   exact w_goto () .nil ⟨(hS.keep [] rfl).up (by omega), hM⟩
theorem W_law01_isWheel {n : Nat} {a0 : Wheel} {r : Bool} (hM : law01_isWheel n a0 = some r) : PureSat Try.prog 22 [.agg (Wheel.cells a0)] (.b r) := by
 refine pure_of_wp mixed Try.func22 rfl (by decide) Try.ntmps22 (by simp) ?pure fun H0 g hf => ?_
 case pure => exact .v _
 rw [frame0_of]
 change wpA _ _ _ _ (Fr.of [(0, .agg (Wheel.cells a0))]) H0 g
 have hS := St.start hf
 refine Sq ?_
 refine Rg 2 ?_
 refine o_box (v := .agg (Wheel.cells a0)) (cs := (Wheel.cells a0)) hS (by decide) rfl rfl (by omega) fun H hS => ?_
 refine Oa (.b false) ?_
 refine Ni ?_
 refine w_iceE (L' := []) 0 1 hS rfl rfl rfl fun H hS => ?_
 refine Ws ?_
 refine w_join (J := Bool) (fun j => [(2, .b j)]) (fun j H' g' => St (· < g) H0 [] H' g' ∧ law01_isWheel_j1 j = some r) ?_ ?_
 ·rintro v1 H g1 ⟨hS, hM⟩
  change wpA _ _ _ _ (Fr.of [(2, .b v1)]) _ _
  replace hS : St (· < g) H0 [] H g1 := hS
  replace hM : law01_isWheel_j1 v1 = some r := hM
  refine r_ret ?_
  refine w_end (x := .b v1) (f := fun r => .b r) (.inr rfl) ?_ (.refl _) (Option.some.inj hM) hS
  exact (res_one (res_tmp (x := .b v1) rfl))
 ·refine Rg 9 ?_
  refine Olg (.agg (Wheel.cells a0)) ty_agg24 ?_
  obtain ⟨r2, hr2, hM⟩ := bindE hM
  refine o_call (bs := [.agg (Wheel.cells a0)]) (by decide) rfl rfl ((W_law01_far hr2).le (.k .nil)) ?_
  refine o_not (e := r2) (by decide) rfl ?_
  refine Om (.b (!r2)) ?_
  rcases bft (!r2) with hb3 | hb3
  ·replace hM := ifT hM hb3
   refine Oy (want := true) hb3 ?_
   refine Olg (.agg (Wheel.cells a0)) ty_agg24 ?_
   refine Oy (want := true) hb3 ?_
   obtain ⟨r4, hr4, hM⟩ := bindE hM
   refine o_call (bs := [.agg (Wheel.cells a0)]) (by decide) rfl rfl ((W_ref01_Check hr4).le (.k .nil)) ?_
   refine Oy (want := true) hb3 ?_
   refine Oi (.b (r4 == 0)) ?_
   refine Pt (.b (r4 == 0)) hb3 ?_
   refine Oa (.b (r4 == 0)) ?_
   refine Ni ?_
   exact w_goto (r4 == 0) (.k .nil) ⟨(hS.keep [] rfl).up (by omega), hM⟩
  ·replace hM := ifF hM hb3
   refine On (want := true) hb3 ?_
   refine On (want := true) hb3 ?_
   refine On (want := true) hb3 ?_
   refine Pf (.b false) hb3 ?_
   refine Oa (.b false) ?_
   refine Ni ?_
   exact w_goto false (.k .nil) ⟨(hS.keep [] rfl).up (by omega), hM⟩
theorem W_ref01_IsPurse {n : Nat} {a0 : Wheel} {a1 : List Int} {r : Bool} (hM : ref01_IsPurse n a0 a1 = some r) : PureSat Try.prog 23 [.agg (Wheel.cells a0), .sl .no 1 (a1.map cI)] (.b r) := by
 refine pure_of_wp mixed Try.func23 rfl (by decide) Try.ntmps23 (by simp) ?pure fun H0 g hf => ?_
 case pure => exact .v _
 rw [frame0_of]
 change wpA _ _ _ _ (Fr.of [(0, .agg (Wheel.cells a0)), (1, .sl .no 1 (a1.map cI))]) H0 g
 have hS := St.start hf
 refine Sq ?_
 refine Rg 2 ?_
 refine o_box (v := .agg (Wheel.cells a0)) (cs := (Wheel.cells a0)) hS (by decide) rfl rfl (by omega) fun H hS => ?_
 refine Oa (.b false) ?_
 refine Ni ?_
 refine w_iceE (L' := []) 0 2 hS rfl rfl rfl fun H hS => ?_
 refine Ws ?_
 refine Sq ?_
 refine Sq ?_
 refine Rg 6 ?_
 refine Om (.sl .no 1 (a1.map cI)) ?_
 refine o_len (n := a1.length) (by decide) rfl (List.length_map _) ty_isl22 ?_
 refine Of ((Wheel.cells a0)) ty_fo24_2 ?_
 refine Olp (.sl .no 1 (a0.Coins.map cI)) ty_agg22 ty_sc22 ?_
 refine o_len (n := a0.Coins.length) (by decide) rfl (List.length_map _) ty_isl22 ?_
 refine Oi (.b ((a1.length : Int) != (a0.Coins.length : Int))) ?_
 refine Ni ?_
 refine Ws ?_
 rcases bft ((a1.length : Int) != (a0.Coins.length : Int)) with hb1 | hb1
 ·replace hM := ifT hM hb1
  refine Ct hb1 ?_
  refine Sq ?_
  refine Rg 1 ?_
  refine Oa (.b false) ?_
  refine Ni ?_
  refine Ws ?_
  refine r_ret ?_
  refine r_then_ret ?_
  refine w_end (x := .b false) (f := fun r => .b r) (.inr rfl) ?_ (.refl _) (Option.some.inj hM) hS
  exact (res_one (res_tmp (x := .b false) rfl))
 ·replace hM := ifF hM hb1
  refine Cf hb1 ?_
  refine r_skip ?_
  refine Ws ?_
  refine Sq ?_
  refine Rg 1 ?_
  refine Oa (.i 0) ?_
  refine Ni ?_
  refine Ws ?_
  refine w_join (J := Int) (fun j => [(5, .i j)]) (fun j H' g' => St (· < g) H0 [] H' g' ∧ ref01_IsPurse_j1 j = some r) ?_ ?_
  ·rintro v2 H g1 ⟨hS, hM⟩
   change wpA _ _ _ _ (Fr.of [(5, .i v2)]) _ _
   replace hS : St (· < g) H0 [] H g1 := hS
   replace hM : ref01_IsPurse_j1 v2 = some r := hM
   refine Sq ?_
   refine Rg 3 ?_
   refine Om (.i v2) ?_
   refine Oi (.b (decide (v2 ≤ 12))) ?_
   refine Oa (.b (decide (v2 ≤ 12))) ?_
   refine Ni ?_
   refine Ws ?_
   refine r_ret ?_
   refine w_end (x := .b (decide (v2 ≤ 12))) (f := fun r => .b r) (.inr rfl) ?_ (.refl _) (Option.some.inj hM) hS
   exact (res_one (res_tmp (x := .b (decide (v2 ≤ 12))) rfl))
  ·refine Sq ?_
   refine Rg 1 ?_
   refine Oa (.i 0) ?_
   refine Ni ?_
   refine Ws ?_
   refine r_block ?_
   refine w_loop (V := Int × Int) (fun v => [(1, .sl .no 1 (a1.map cI)), (5, .i v.1), (6, .i v.2)]) (fun v m2 H' g' => St (· < g) H0 [] H' g' ∧ ref01_IsPurse_l1 a1 m2 v.1 v.2 = some r) (n := n) (0, 0) (.k (.k (.k .nil))) ⟨(hS.keep [] rfl).up (by omega), hM⟩ ?_
   rintro ⟨v3, v4⟩ m2 H g2 ⟨hS, hM⟩
   obtain _ | m2 := m2
   ·exact nomatch (show none = some _ from hM)
   change wpA _ _ _ _ (Fr.of [(1, .sl .no 1 (a1.map cI)), (5, .i v3), (6, .i v4)]) _ _
   replace hS : St (· < g) H0 [] H g2 := hS
   replace hM : ref01_IsPurse_l1_b a1 (ref01_IsPurse_l1 a1 m2) v3 v4 = some r := hM
   refine Sq ?_
   refine Sq ?_
   refine Rg 4 ?_
   refine Om (.i v4) ?_
   refine Om (.sl .no 1 (a1.map cI)) ?_
   refine o_len (n := a1.length) (by decide) rfl (List.length_map _) ty_isl22 ?_
   refine Oi (.b (decide (v4 < (a1.length : Int)))) ?_
   refine Ni ?_
   refine Ws ?_
   rcases bft (decide (v4 < (a1.length : Int))) with hb5 | hb5
   ·replace hM := ifT hM hb5
    refine Ct hb5 ?_
    refine r_skip ?_
    refine Ws ?_
    refine Sq ?_
    refine r_block ?_
    refine Sq ?_
    refine Sq ?_
    refine Rg 6 ?_
    refine Om (.sl .no 1 (a1.map cI)) ?_
    refine Om (.i v4) ?_
    obtain ⟨x6, hx6, hM⟩ := bindE hM
    refine o_index (xs := a1) (f := cI) (z := v4) (u := x6) (by decide) rfl rfl ty_es22 hx6 ?_
    refine Olp (.i x6) ty_agg3 ty_sc3 ?_
    obtain ⟨r7, hr7, hM⟩ := bindE hM
    refine o_call (bs := [.i x6, .i 0, .i 12]) (by decide) rfl rfl ((W_ref01_Within hr7).le (.k (.k (.k .nil)))) ?_
    refine o_not (e := r7) (by decide) rfl ?_
    refine Ni ?_
    refine Ws ?_
    rcases bft (!r7) with hb8 | hb8
    ·replace hM := ifT hM hb8
     refine Ct hb8 ?_
     refine Sq ?_
     refine Rg 1 ?_
     refine Oa (.b false) ?_
     refine Ni ?_
     refine Ws ?_
     refine r_ret ?_
     refine r_then_ret ?_
     refine r_blk_ret ?_
     refine r_then_ret ?_
     refine w_round_ret ?_
     refine r_blk_ret ?_
     refine w_goto_ret ?_
     refine w_end (x := .b false) (f := fun r => .b r) (.inr rfl) ?_ (.refl _) (Option.some.inj hM) hS
     exact (res_one (res_tmp (x := .b false) rfl))
    ·replace hM := ifF hM hb8
     refine Cf hb8 ?_
     refine r_skip ?_
     refine Ws ?_
     refine Rg 7 ?_
     refine Om (.i v3) ?_
     refine Om (.sl .no 1 (a1.map cI)) ?_
     refine Om (.i v4) ?_
     obtain ⟨x9, hx9, hM⟩ := bindE hM
     refine o_index (xs := a1) (f := cI) (z := v4) (u := x9) (by decide) rfl rfl ty_es22 hx9 ?_
     refine Olp (.i x9) ty_agg3 ty_sc3 ?_
     refine Oi (.i (w64 (v3 + x9))) ?_
     refine Oa (.i (w64 (v3 + x9))) ?_
     refine Ni ?_
     refine r_blk_normal ?_
     refine Ws ?_
     refine Rg 3 ?_
     refine Om (.i v4) ?_
     refine Oi (.i (w64 (v4 + 1))) ?_
     refine Oa (.i (w64 (v4 + 1))) ?_
     refine Ni ?_
     exact w_round (w64 (v3 + x9), w64 (v4 + 1)) (Nat.lt_succ_self _) (.k (.k (.k .nil))) ⟨(hS.keep [] rfl).up (by omega), hM⟩
   ·replace hM := ifF hM hb5
    refine Cf hb5 ?_
    refine r_exit ?_
    refine r_then_exit ?_
    refine w_round_exit ?_
    refine r_blk_exit ?_
    exact w_goto v3 (.k .nil) ⟨(hS.keep [] rfl).up (by omega), hM⟩
theorem W_law01_rich {n : Nat} {a0 : Wheel} {a1 : List Int} {r : Bool} (hM : law01_rich n a0 a1 = some r) : PureSat Try.prog 24 [.agg (Wheel.cells a0), .sl .no 1 (a1.map cI)] (.b r) := by
 refine pure_of_wp mixed Try.func24 rfl (by decide) Try.ntmps24 (by simp) ?pure fun H0 g hf => ?_
 case pure => exact .v _
 rw [frame0_of]
 change wpA _ _ _ _ (Fr.of [(0, .agg (Wheel.cells a0)), (1, .sl .no 1 (a1.map cI))]) H0 g
 have hS := St.start hf
 refine Sq ?_
 refine Rg 2 ?_
 refine o_box (v := .agg (Wheel.cells a0)) (cs := (Wheel.cells a0)) hS (by decide) rfl rfl (by omega) fun H hS => ?_
 refine Oa (.b false) ?_
 refine Ni ?_
 refine w_iceE (L' := []) 0 2 hS rfl rfl rfl fun H hS => ?_
 refine Ws ?_
 refine Sq ?_
 refine Sq ?_
 refine Rg 3 ?_
 refine Om (.sl .no 1 (a1.map cI)) ?_
 refine o_len (n := a1.length) (by decide) rfl (List.length_map _) ty_isl22 ?_
 refine Oi (.b (decide ((a1.length : Int) > 40))) ?_
 refine Ni ?_
 refine Ws ?_
 rcases bft (decide ((a1.length : Int) > 40)) with hb1 | hb1
 ·replace hM := ifT hM hb1
  refine Ct hb1 ?_
  refine Sq ?_
  refine Rg 1 ?_
  refine Oa (.b true) ?_
  refine Ni ?_
  refine Ws ?_
  refine r_ret ?_
  refine r_then_ret ?_
  refine w_end (x := .b true) (f := fun r => .b r) (.inr rfl) ?_ (.refl _) (Option.some.inj hM) hS
  exact (res_one (res_tmp (x := .b true) rfl))
 ·replace hM := ifF hM hb1
  refine Cf hb1 ?_
  refine r_skip ?_
  refine Ws ?_
  refine Sq ?_
  refine w_join (J := Bool) (fun j => [(1, .sl .no 1 (a1.map cI)), (18, .b j)]) (fun j H' g' => St (· < g) H0 [] H' g' ∧ law01_rich_j1 n a1 j = some r) ?_ ?_
  ·rintro v2 H g1 ⟨hS, hM⟩
   change wpA _ _ _ _ (Fr.of [(1, .sl .no 1 (a1.map cI)), (18, .b v2)]) _ _
   replace hS : St (· < g) H0 [] H g1 := hS
   replace hM : law01_rich_j1 n a1 v2 = some r := hM
   rcases bft v2 with hb3 | hb3
   ·replace hM := ifT hM hb3
    refine Ct hb3 ?_
    refine Sq ?_
    refine Rg 1 ?_
    refine Oa (.b false) ?_
    refine Ni ?_
    refine Ws ?_
    refine r_ret ?_
    refine r_then_ret ?_
    refine w_end (x := .b false) (f := fun r => .b r) (.inr rfl) ?_ (.refl _) (Option.some.inj hM) hS
    exact (res_one (res_tmp (x := .b false) rfl))
   ·replace hM := ifF hM hb3
    refine Cf hb3 ?_
    refine r_skip ?_
    refine Ws ?_
    refine Sq ?_
    refine Rg 1 ?_
    refine Oa (.i 0) ?_
    refine Ni ?_
    refine Ws ?_
    refine w_join (J := Int) (fun j => [(5, .i j)]) (fun j H' g' => St (· < g) H0 [] H' g' ∧ law01_rich_j2 j = some r) ?_ ?_
    ·rintro v4 H g2 ⟨hS, hM⟩
     change wpA _ _ _ _ (Fr.of [(5, .i v4)]) _ _
     replace hS : St (· < g) H0 [] H g2 := hS
     replace hM : law01_rich_j2 v4 = some r := hM
     refine Sq ?_
     refine Rg 3 ?_
     refine Om (.i v4) ?_
     refine Oi (.b (decide (v4 > 6))) ?_
     refine Oa (.b (decide (v4 > 6))) ?_
     refine Ni ?_
     refine Ws ?_
     refine r_ret ?_
     refine w_end (x := .b (decide (v4 > 6))) (f := fun r => .b r) (.inr rfl) ?_ (.refl _) (Option.some.inj hM) hS
     exact (res_one (res_tmp (x := .b (decide (v4 > 6))) rfl))
    ·refine Sq ?_
     refine Rg 1 ?_
     refine Oa (.i 0) ?_
     refine Ni ?_
     refine Ws ?_
     refine r_block ?_
     refine w_loop (V := Int × Int) (fun v => [(1, .sl .no 1 (a1.map cI)), (5, .i v.1), (6, .i v.2)]) (fun v m3 H' g' => St (· < g) H0 [] H' g' ∧ law01_rich_l1 a1 m3 v.1 v.2 = some r) (n := n) (0, 0) (.k (.k (.k .nil))) ⟨(hS.keep [] rfl).up (by omega), hM⟩ ?_
     rintro ⟨v5, v6⟩ m3 H g3 ⟨hS, hM⟩
     obtain _ | m3 := m3
     ·exact nomatch (show none = some _ from hM)
     change wpA _ _ _ _ (Fr.of [(1, .sl .no 1 (a1.map cI)), (5, .i v5), (6, .i v6)]) _ _
     replace hS : St (· < g) H0 [] H g3 := hS
     replace hM : law01_rich_l1_b a1 (law01_rich_l1 a1 m3) v5 v6 = some r := hM
     refine Sq ?_
     refine Sq ?_
     refine Rg 4 ?_
     refine Om (.i v6) ?_
     refine Om (.sl .no 1 (a1.map cI)) ?_
     refine o_len (n := a1.length) (by decide) rfl (List.length_map _) ty_isl22 ?_
     refine Oi (.b (decide (v6 < (a1.length : Int)))) ?_
     refine Ni ?_
     refine Ws ?_
     rcases bft (decide (v6 < (a1.length : Int))) with hb7 | hb7
     ·replace hM := ifT hM hb7
      refine Ct hb7 ?_
      refine r_skip ?_
      refine Ws ?_
      refine Sq ?_
      refine r_block ?_
      refine Rg 7 ?_
      refine Om (.i v5) ?_
      refine Om (.sl .no 1 (a1.map cI)) ?_
      refine Om (.i v6) ?_
      obtain ⟨x8, hx8, hM⟩ := bindE hM
      refine o_index (xs := a1) (f := cI) (z := v6) (u := x8) (by decide) rfl rfl ty_es22 hx8 ?_
      refine Olp (.i x8) ty_agg3 ty_sc3 ?_
      refine Oi (.i (w64 (v5 + x8))) ?_
      refine Oa (.i (w64 (v5 + x8))) ?_
      refine Ni ?_
      refine r_blk_normal ?_
      refine Ws ?_
      refine Rg 3 ?_
      refine Om (.i v6) ?_
      refine Oi (.i (w64 (v6 + 1))) ?_
      refine Oa (.i (w64 (v6 + 1))) ?_
      refine Ni ?_
      exact w_round (w64 (v5 + x8), w64 (v6 + 1)) (Nat.lt_succ_self _) (.k (.k (.k .nil))) ⟨(hS.keep [] rfl).up (by omega), hM⟩
     ·replace hM := ifF hM hb7
      refine Cf hb7 ?_
      refine r_exit ?_
      refine r_then_exit ?_
      refine w_round_exit ?_
      refine r_blk_exit ?_
      exact w_goto v5 (.k .nil) ⟨(hS.keep [] rfl).up (by omega), hM⟩
  ·refine Rg 9 ?_
   refine Olg (.agg (Wheel.cells a0)) ty_agg24 ?_
   obtain ⟨r9, hr9, hM⟩ := bindE hM
   refine o_call (bs := [.agg (Wheel.cells a0)]) (by decide) rfl rfl ((W_ref01_Check hr9).le (.k .nil)) ?_
   refine Oi (.b (r9 != 0)) ?_
   refine Om (.b (r9 != 0)) ?_
   rcases bft (r9 != 0) with hb10 | hb10
   ·replace hM := ifT hM hb10
    refine On (want := false) hb10 ?_
    refine On (want := false) hb10 ?_
    refine On (want := false) hb10 ?_
    refine On (want := false) hb10 ?_
    refine Pt (.b true) hb10 ?_
    refine Ni ?_
    exact w_goto true (.k (.k .nil)) ⟨(hS.keep [] rfl).up (by omega), hM⟩
   ·replace hM := ifF hM hb10
    refine Oy (want := false) hb10 ?_
    refine Olg (.agg (Wheel.cells a0)) ty_agg24 ?_
    refine Oy (want := false) hb10 ?_
    refine Om (.sl .no 1 (a1.map cI)) ?_
    refine Oy (want := false) hb10 ?_
    obtain ⟨r11, hr11, hM⟩ := bindE hM
    refine o_call (bs := [.agg (Wheel.cells a0), .sl .no 1 (a1.map cI)]) (by decide) rfl rfl ((W_ref01_IsPurse hr11).le (.k (.k .nil))) ?_
    refine Oy (want := false) hb10 ?_
    refine o_not (e := r11) (by decide) rfl ?_
    refine Pf (.b (!r11)) hb10 ?_
    refine Ni ?_
    exact w_goto (!r11) (.k (.k .nil)) ⟨(hS.keep [] rfl).up (by omega), hM⟩
theorem W_law01_joined {a0 : List Int} {a1 : List Int} {r : (List Int)} (hM : law01_joined a0 a1 = some r) : PureSat Try.prog 26 [.sl .no 1 (a0.map cI), .sl .no 1 (a1.map cI)] (.sl .no 1 (r.map cI)) := by
 refine pure_of_wp mixed Try.func26 rfl (by decide) Try.ntmps26 (by simp) ?pure fun H0 g hf => ?_
 case pure => exact .sl _ _ (pures_map (fun x => (pl_cons (.v _) pl_nil)))
 rw [frame0_of]
 change wpA _ _ _ _ (Fr.of [(0, .sl .no 1 (a0.map cI)), (1, .sl .no 1 (a1.map cI))]) H0 g
 have hS := St.start hf
 refine Sq ?_
 refine Rg 1 ?_
 refine Oa (.sl .nil 0 []) ?_
 refine Ni ?_
 refine Ws ?_
 refine Sq ?_
 refine Rg 6 ?_
 refine o_buildSlice (es := []) hS (by decide) ty_es22 ty_el22 rfl ty_ef22 rfl (by decide) (by omega) fun H hS => ?_
 refine Om (.sl .no 1 (a0.map cI)) ?_
 obtain ⟨l1, hl1, hM⟩ := bindE hM
 refine o_append (xs := ([] : List Int)) (ys := a0) (zs := l1) (f := cI) (L' := [(g + 1 + 0, .row 3 l1.length)]) 0 hS (by decide) rfl rfl rfl rfl .no ty_es22 ty_el22 ty_ef22 hl1 rfl fun H hS => ?_
 refine Om (.sl .no 1 (a1.map cI)) ?_
 obtain ⟨l2, hl2, hM⟩ := bindE hM
 refine o_append (xs := l1) (ys := a1) (zs := l2) (f := cI) (L' := [(g + 1 + 0, .row 3 l2.length)]) 0 hS (by decide) rfl rfl rfl rfl .no ty_es22 ty_el22 ty_ef22 hl2 rfl fun H hS => ?_
 refine Oa (.sl (.id (g + 1 + 0)) 1 (l2.map cI)) ?_
 refine Ni ?_
 refine w_next [(4, .sl (.id (g + 1 + 0)) 1 (l2.map cI))] (.k .nil) ?_
 refine r_ret ?_
 refine w_end (x := .sl (.id (g + 1 + 0)) 1 (l2.map cI)) (f := fun r => .sl .no 1 (r.map cI)) (.inr rfl) ?_ (.sl _ _ _) (Option.some.inj hM) hS
 exact (res_one (res_tmp (x := .sl (.id (g + 1 + 0)) 1 (l2.map cI)) rfl))
theorem WF_law01_joined {a0 : List Int} {a1 : List Int} {r : (List Int)} (hM : law01_joined a0 a1 = some r) : FreshSat Try.prog 26 [.sl .no 1 (a0.map cI), .sl .no 1 (a1.map cI)] 3 1 (r.map cI) := by
 refine fresh_of_wp mixed Try.func26 rfl (by decide) Try.ntmps26 (by simp) ?pure fun H0 g hf => ?_
 case pure => exact pures_map (fun x => (pl_cons (.v _) pl_nil))
 rw [frame0_of]
 change wpA _ _ _ _ (Fr.of [(0, .sl .no 1 (a0.map cI)), (1, .sl .no 1 (a1.map cI))]) H0 g
 have hS := St.start hf
 refine Sq ?_
 refine Rg 1 ?_
 refine Oa (.sl .nil 0 []) ?_
 refine Ni ?_
 refine Ws ?_
 refine Sq ?_
 refine Rg 6 ?_
 refine o_buildSlice (es := []) hS (by decide) ty_es22 ty_el22 rfl ty_ef22 rfl (by decide) (by omega) fun H hS => ?_
 refine Om (.sl .no 1 (a0.map cI)) ?_
 obtain ⟨l1, hl1, hM⟩ := bindE hM
 refine o_append (xs := ([] : List Int)) (ys := a0) (zs := l1) (f := cI) (L' := [(g + 1 + 0, .row 3 l1.length)]) 0 hS (by decide) rfl rfl rfl rfl .no ty_es22 ty_el22 ty_ef22 hl1 rfl fun H hS => ?_
 refine Om (.sl .no 1 (a1.map cI)) ?_
 obtain ⟨l2, hl2, hM⟩ := bindE hM
 refine o_append (xs := l1) (ys := a1) (zs := l2) (f := cI) (L' := [(g + 1 + 0, .row 3 l2.length)]) 0 hS (by decide) rfl rfl rfl rfl .no ty_es22 ty_el22 ty_ef22 hl2 rfl fun H hS => ?_
 refine Oa (.sl (.id (g + 1 + 0)) 1 (l2.map cI)) ?_
 refine Ni ?_
 refine Ws ?_
 refine r_ret ?_
 obtain rfl := Option.some.inj hM
 refine w_endF (j := g + 1 + 0) 0 (.inr rfl) ?_ hS rfl (List.length_map _).symm
 exact (res_one (res_tmp (x := .sl (.id (g + 1 + 0)) 1 (l2.map cI)) rfl))
theorem W_law01_isKnown {a0 : Int} {r : Bool} (hM : law01_isKnown a0 = some r) : PureSat Try.prog 28 [.i a0] (.b r) := by
 refine pure_of_wp mixed Try.func28 rfl (by decide) Try.ntmps28 (by simp) ?pure fun H0 g hf => ?_
 case pure => exact .v _
 rw [frame0_of]
 change wpA _ _ _ _ (Fr.of [(0, .i a0)]) H0 g
 have hS := St.start hf
 refine Sq ?_
 refine Rg 1 ?_
 refine Oa (.b false) ?_
 refine Ni ?_
 refine Ws ?_
 refine w_join (J := Bool) (fun j => [(2, .b j)]) (fun j H' g' => St (· < g) H0 [] H' g' ∧ law01_isKnown_j1 j = some r) ?_ ?_
 ·rintro v1 H g1 ⟨hS, hM⟩
  change wpA _ _ _ _ (Fr.of [(2, .b v1)]) _ _
  replace hS : St (· < g) H0 [] H g1 := hS
  replace hM : law01_isKnown_j1 v1 = some r := hM
  refine r_ret ?_
  refine w_end (x := .b v1) (f := fun r => .b r) (.inr rfl) ?_ (.refl _) (Option.some.inj hM) hS
  exact (res_one (res_tmp (x := .b v1) rfl))
 ·refine Rg 7 ?_
  refine Om (.i a0) ?_
  refine Oi (.b (a0 == 0)) ?_
  refine Om (.b (a0 == 0)) ?_
  rcases bft (a0 == 0) with hb2 | hb2
  ·replace hM := ifT hM hb2
   refine On (want := false) hb2 ?_
   refine On (want := false) hb2 ?_
   refine Pt (.b true) hb2 ?_
   refine Oa (.b true) ?_
   refine Ni ?_
   exact w_goto true (.k .nil) ⟨(hS.keep [] rfl).up (by omega), hM⟩
  ·replace hM := ifF hM hb2
   refine Oy (want := false) hb2 ?_
   refine Om (.i a0) ?_
   refine Oy (want := false) hb2 ?_
   refine Oi (.b (a0 == 3)) ?_
   refine Pf (.b (a0 == 3)) hb2 ?_
   refine Oa (.b (a0 == 3)) ?_
   refine Ni ?_
   exact w_goto (a0 == 3) (.k .nil) ⟨(hS.keep [] rfl).up (by omega), hM⟩
theorem W_law01_CoinsMore {n : Nat} {a0 : Wheel} {a1 : List Int} {a2 : Extra} {r : Bool} (hM : law01_CoinsMore n a0 a1 a2 = some r) : PureSat Try.prog 4 [.agg (Wheel.cells a0), .sl .no 1 (a1.map cI), .agg [.i a2.Kind, .i a2.Notch]] (.b r) := by
 refine pure_of_wp mixed Try.func4 rfl (by decide) Try.ntmps4 (by simp) ?pure fun H0 g hf => ?_
 case pure => exact .v _
 rw [frame0_of]
 change wpA _ _ _ _ (Fr.of [(0, .agg (Wheel.cells a0)), (1, .sl .no 1 (a1.map cI)), (2, .agg [.i a2.Kind, .i a2.Notch])]) H0 g
 have hS := St.start hf
 refine Sq ?_
 refine Rg 3 ?_
 refine o_box (v := .agg (Wheel.cells a0)) (cs := (Wheel.cells a0)) hS (by decide) rfl rfl (by omega) fun H hS => ?_
 refine o_box (v := .agg [.i a2.Kind, .i a2.Notch]) (cs := [.i a2.Kind, .i a2.Notch]) hS (by decide) rfl rfl (by omega) fun H hS => ?_
 refine Oa (.b false) ?_
 refine Ni ?_
 refine w_iceE (L' := [(g + 1, .cells [.i a2.Kind, .i a2.Notch])]) 1 3 hS rfl rfl rfl fun H hS => ?_
 refine w_iceE (L' := []) 0 5 hS rfl rfl rfl fun H hS => ?_
 refine Ws ?_
 refine Sq ?_
 refine w_join (J := Bool) (fun j => [(1, .sl .no 1 (a1.map cI)), (3, .ep (Wheel.cells a0)), (5, .ep [.i a2.Kind, .i a2.Notch]), (38, .b j)]) (fun j H' g' => St (· < g) H0 [] H' g' ∧ law01_CoinsMore_j1 n a0 a1 a2 j = some r) ?_ ?_
 ·rintro v1 H g1 ⟨hS, hM⟩
  change wpA _ _ _ _ (Fr.of [(1, .sl .no 1 (a1.map cI)), (3, .ep (Wheel.cells a0)), (5, .ep [.i a2.Kind, .i a2.Notch]), (38, .b v1)]) _ _
  replace hS : St (· < g) H0 [] H g1 := hS
  replace hM : law01_CoinsMore_j1 n a0 a1 a2 v1 = some r := hM
  rcases bft v1 with hb2 | hb2
  ·replace hM := ifT hM hb2
   refine Ct hb2 ?_
   refine Sq ?_
   refine Rg 2 ?_
   obtain ⟨r3, hr3, hM⟩ := bindE hM
   refine o_call (bs := []) (by decide) rfl rfl ((W_law01_works hr3).le .nil) ?_
   refine Oa (.b r3) ?_
   refine Ni ?_
   refine Ws ?_
   refine r_ret ?_
   refine r_then_ret ?_
   refine w_end (x := .b r3) (f := fun r => .b r) (.inr rfl) ?_ (.refl _) (Option.some.inj hM) hS
   exact (res_one (res_tmp (x := .b r3) rfl))
  ·replace hM := ifF hM hb2
   refine Cf hb2 ?_
   refine r_skip ?_
   refine Ws ?_
   refine Sq ?_
   have hS0 := hS
   refine r_draw (n := 9) rfl (by kernel_rfl) ?_
   refine Olg (.agg (Wheel.cells a0)) ty_agg24 ?_
   refine Om (.sl .no 1 (a1.map cI)) ?_
   obtain ⟨r4, hr4, hM⟩ := bindE hM
   refine o_call (bs := [.sl .no 1 (a1.map cI), .sl .nil 0 []]) (by decide) rfl rfl ((W_law01_joined hr4).le (.k (.cons (.sl0 .nil 1 0) .nil))) ?_
   obtain ⟨r5, hr5, hM⟩ := bindE hM
   refine o_call (bs := [.agg (Wheel.cells a0), .sl .no 1 (r4.map cI)]) (by decide) rfl rfl ((W_coins_Most hr5).le (.k (.k .nil))) ?_
   refine Om (.tup [.i r5.1, .i r5.2]) ?_
   refine Ox (.i r5.1) ?_
   refine Ox (.i r5.2) ?_
   refine Oa (.i r5.1) ?_
   refine Oa (.i r5.2) ?_
   refine Ni ?_
   refine Ws ?_
   refine Sq ?_
   refine Sq ?_
   refine Rg 2 ?_
   refine Om (.i r5.2) ?_
   refine Oi (.b (r5.2 != 0)) ?_
   refine Ni ?_
   refine Ws ?_
   rcases bft (r5.2 != 0) with hb6 | hb6
   ·replace hM := ifT hM hb6
    refine Ct hb6 ?_
    refine Sq ?_
    refine Rg 1 ?_
    refine Oa (.b false) ?_
    refine Ni ?_
    refine Ws ?_
    refine r_ret ?_
    refine r_then_ret ?_
    refine w_end (x := .b false) (f := fun r => .b r) (.inr rfl) ?_ (.refl _) (Option.some.inj hM) hS
    exact (res_one (res_tmp (x := .b false) rfl))
   ·replace hM := ifF hM hb6
    refine Cf hb6 ?_
    refine r_skip ?_
    refine Ws ?_
    refine w_join (J := Unit) (fun j => [(1, .sl .no 1 (a1.map cI)), (3, .ep (Wheel.cells a0)), (5, .ep [.i a2.Kind, .i a2.Notch]), (7, .i r5.1)]) (fun j H' g' => St (· < g) H0 [] H' g' ∧ law01_CoinsMore_j2 n a0 a1 a2 r5 = some r) ?_ ?_
    ·rintro _ H g2 ⟨hS, hM⟩
     change wpA _ _ _ _ (Fr.of [(1, .sl .no 1 (a1.map cI)), (3, .ep (Wheel.cells a0)), (5, .ep [.i a2.Kind, .i a2.Notch]), (7, .i r5.1)]) _ _
     replace hS : St (· < g) H0 [] H g2 := hS
     replace hM : law01_CoinsMore_j2 n a0 a1 a2 r5 = some r := hM
     refine Sq ?_
     refine w_join (J := Bool) (fun j => [(1, .sl .no 1 (a1.map cI)), (3, .ep (Wheel.cells a0)), (5, .ep [.i a2.Kind, .i a2.Notch]), (7, .i r5.1), (113, .b j)]) (fun j H' g' => St (· < g) H0 [] H' g' ∧ law01_CoinsMore_j3 n a0 a1 a2 r5 j = some r) ?_ ?_
     ·rintro v7 H g3 ⟨hS, hM⟩
      change wpA _ _ _ _ (Fr.of [(1, .sl .no 1 (a1.map cI)), (3, .ep (Wheel.cells a0)), (5, .ep [.i a2.Kind, .i a2.Notch]), (7, .i r5.1), (113, .b v7)]) _ _
      replace hS : St (· < g) H0 [] H g3 := hS
      replace hM : law01_CoinsMore_j3 n a0 a1 a2 r5 v7 = some r := hM
      rcases bft v7 with hb8 | hb8
      ·replace hM := ifT hM hb8
       refine Ct hb8 ?_
       refine Sq ?_
       refine Rg 2 ?_
       obtain ⟨r9, hr9, hM⟩ := bindE hM
       refine o_call (bs := []) (by decide) rfl rfl ((W_law01_works hr9).le .nil) ?_
       refine Oa (.b r9) ?_
       refine Ni ?_
       refine Ws ?_
       refine r_ret ?_
       refine r_then_ret ?_
       refine w_end (x := .b r9) (f := fun r => .b r) (.inr rfl) ?_ (.refl _) (Option.some.inj hM) hS
       exact (res_one (res_tmp (x := .b r9) rfl))
      ·replace hM := ifF hM hb8
       refine Cf hb8 ?_
       refine r_skip ?_
       refine Ws ?_
       refine Sq ?_
       refine Rg 4 ?_
       refine Olg (.agg (Wheel.cells a0)) ty_agg24 ?_
       obtain ⟨r10, hr10, hM⟩ := bindE hM
       refine o_call (bs := [.agg (Wheel.cells a0)]) (by decide) rfl rfl ((W_ref01_Copy hr10).le (.k .nil)) ?_
       refine o_alloc hS (by decide) ty_zero24 (by omega) fun H hS => ?_
       refine o_store (v := .agg (Wheel.cells r10)) (ns := (Wheel.cells r10)) (L' := [(g3 + 2, .cells (Wheel.cells r10))]) 0 hS rfl rfl .no rfl rfl ty_var24 nlb rfl fun H hS => ?_
       refine Ni ?_
       refine Ws ?_
       refine Sq ?_
       refine Rg 2 ?_
       refine o_fieldP (by decide) ty_fo24_1 rfl ?_
       refine o_store (v := .sl .nil 0 []) (ns := [.sl .nil 0 []]) (L' := [(g3 + 2, .cells [.i r10.Round, .sl .nil 0 [], .sl .no 1 (r10.Coins.map cI)])]) 0 hS rfl rfl .no rfl rfl ty_var22 nlb rfl fun H hS => ?_
       refine Ni ?_
       refine w_ownC (cs' := [.i r10.Round, .sl (.id (g3 + 4 + 2)) 1 (([] : List Int).map cI), .sl .no 1 (r10.Coins.map cI)]) (L' := [(g3 + 2, .cells [.i r10.Round, .sl (.id (g3 + 4 + 2)) 1 (([] : List Int).map cI), .sl .no 1 (r10.Coins.map cI)])]) 0 1 1 3 hS (by omega) (by decide) rfl rfl rfl rfl fun H hS => ?_
       refine Ws ?_
       refine w_join (J := (List Int)) (fun j => [(1, .sl .no 1 (a1.map cI)), (3, .ep (Wheel.cells a0)), (7, .i r5.1), (12, .ptr (g3 + 2) 0)]) (fun j H' g' => St (· < g) H0 [(g3 + 4 + 2, .row 3 j.length), (g3 + 2, .cells [.i r10.Round, .sl (.id (g3 + 4 + 2)) 1 (j.map cI), .sl .no 1 (r10.Coins.map cI)])] H' g' ∧ law01_CoinsMore_j4 n a0 a1 r5 r10 j = some r) ?_ ?_
       ·rintro v11 H g4 ⟨hS, hM⟩
        change wpA _ _ _ _ (Fr.of [(1, .sl .no 1 (a1.map cI)), (3, .ep (Wheel.cells a0)), (7, .i r5.1), (12, .ptr (g3 + 2) 0)]) _ _
        replace hS : St (· < g) H0 [(g3 + 4 + 2, .row 3 v11.length), (g3 + 2, .cells [.i r10.Round, .sl (.id (g3 + 4 + 2)) 1 (v11.map cI), .sl .no 1 (r10.Coins.map cI)])] H g4 := hS
        replace hM : law01_CoinsMore_j4 n a0 a1 r5 r10 v11 = some r := hM
        refine Sq ?_
        have hS0 := hS
        refine r_draw (n := 9) rfl (by kernel_rfl) ?_
        refine o_load (v := .agg [.i r10.Round, .sl (.id (g3 + 4 + 2)) 1 (v11.map cI), .sl .no 1 (r10.Coins.map cI)]) 1 hS (by decide) rfl rfl (.st hS0 1 rfl (by omega)) (pg ty_agg24) ?_
        refine Om (.sl .no 1 (a1.map cI)) ?_
        obtain ⟨r12, hr12, hM⟩ := bindE hM
        refine o_call (bs := [.sl .no 1 (a1.map cI), .sl .nil 0 []]) (by decide) rfl rfl ((W_law01_joined hr12).le (.k (.cons (.sl0 .nil 1 0) .nil))) ?_
        obtain ⟨r13, hr13, hM⟩ := bindE hM
        refine o_call (bs := [.agg [.i r10.Round, .sl (.id (g3 + 4 + 2)) 1 (v11.map cI), .sl .no 1 (r10.Coins.map cI)], .sl .no 1 (r12.map cI)]) (by decide) rfl rfl ((W_coins_Most hr13).le (.cons (.aggL (.k (.cons (.sl _ _ _) (.k .nil)))) (.k .nil))) ?_
        refine Om (.tup [.i r13.1, .i r13.2]) ?_
        refine Ox (.i r13.1) ?_
        refine Ox (.i r13.2) ?_
        refine Oa (.i r13.1) ?_
        refine Oa (.i r13.2) ?_
        refine Ni ?_
        refine Ws ?_
        refine Sq ?_
        refine Rg 7 ?_
        refine Olg (.agg (Wheel.cells a0)) ty_agg24 ?_
        obtain ⟨r14, hr14, hM⟩ := bindE hM
        refine o_call (bs := [.agg (Wheel.cells a0), .i 3]) (by decide) rfl rfl ((W_coins_Cheapest hr14).le (.k (.k .nil))) ?_
        refine Om (.tup [.i r14.1, .i r14.2]) ?_
        refine Ox (.i r14.1) ?_
        refine Ox (.i r14.2) ?_
        refine Oa (.i r14.1) ?_
        refine Oa (.i r14.2) ?_
        refine Ni ?_
        refine Ws ?_
        refine Sq ?_
        refine Rg 7 ?_
        refine o_load (v := .agg [.i r10.Round, .sl (.id (g3 + 4 + 2)) 1 (v11.map cI), .sl .no 1 (r10.Coins.map cI)]) 1 hS (by decide) rfl rfl .no (pg ty_agg24) ?_
        obtain ⟨r15, hr15, hM⟩ := bindE hM
        refine o_call (bs := [.agg [.i r10.Round, .sl (.id (g3 + 4 + 2)) 1 (v11.map cI), .sl .no 1 (r10.Coins.map cI)], .i 3]) (by decide) rfl rfl ((W_coins_Cheapest hr15).le (.cons (.aggL (.k (.cons (.sl _ _ _) (.k .nil)))) (.k .nil))) ?_
        refine Om (.tup [.i r15.1, .i r15.2]) ?_
        refine Ox (.i r15.1) ?_
        refine Ox (.i r15.2) ?_
        refine Oa (.i r15.1) ?_
        refine Oa (.i r15.2) ?_
        refine Ni ?_
        replace hS := hS.keep (L' := []) [false, false] rfl
        refine Ws ?_
        refine w_join (J := Bool) (fun j => [(6, .b j)]) (fun j H' g' => St (· < g) H0 [] H' g' ∧ law01_CoinsMore_j5 j = some r) ?_ ?_
        ·rintro v16 H g5 ⟨hS, hM⟩
         change wpA _ _ _ _ (Fr.of [(6, .b v16)]) _ _
         replace hS : St (· < g) H0 [] H g5 := hS
         replace hM : law01_CoinsMore_j5 v16 = some r := hM
         refine r_ret ?_
         refine w_end (x := .b v16) (f := fun r => .b r) (.inr rfl) ?_ (.refl _) (Option.some.inj hM) hS
         exact (res_one (res_tmp (x := .b v16) rfl))
        ·refine Rg 32 ?_
         refine Om (.i r13.2) ?_
         refine Oi (.b (r13.2 == 0)) ?_
         refine Om (.b (r13.2 == 0)) ?_
         rcases bft (r13.2 == 0) with hb17 | hb17
         ·replace hM := ifT hM hb17
          refine Oy (want := true) hb17 ?_
          refine Om (.i r13.1) ?_
          refine Oy (want := true) hb17 ?_
          refine Om (.i r5.1) ?_
          refine Oy (want := true) hb17 ?_
          refine Oi (.b (decide (r13.1 ≥ r5.1))) ?_
          refine Pt (.b (decide (r13.1 ≥ r5.1))) hb17 ?_
          refine Om (.b (decide (r13.1 ≥ r5.1))) ?_
          rcases bft (decide (r13.1 ≥ r5.1)) with hb18 | hb18
          ·replace hM := ifT hM hb18
           refine Oy (want := true) hb18 ?_
           refine Om (.i r14.2) ?_
           refine Oy (want := true) hb18 ?_
           obtain ⟨r19, hr19, hM⟩ := bindE hM
           refine o_call (bs := [.i r14.2]) (by decide) rfl rfl ((W_law01_isKnown hr19).le (.k .nil)) ?_
           refine Pt (.b r19) hb18 ?_
           refine Om (.b r19) ?_
           rcases bft r19 with hb20 | hb20
           ·replace hM := ifT hM hb20
            refine Oy (want := true) hb20 ?_
            refine Om (.i r15.2) ?_
            refine Oy (want := true) hb20 ?_
            obtain ⟨r21, hr21, hM⟩ := bindE hM
            refine o_call (bs := [.i r15.2]) (by decide) rfl rfl ((W_law01_isKnown hr21).le (.k .nil)) ?_
            refine Pt (.b r21) hb20 ?_
            refine Om (.b r21) ?_
            rcases bft r21 with hb22 | hb22
            ·replace hM := ifT hM hb22
             refine Oy (want := true) hb22 ?_
             refine Om (.i r14.2) ?_
             refine Oy (want := true) hb22 ?_
             refine Oi (.b (r14.2 != 0)) ?_
             refine Oy (want := true) hb22 ?_
             refine Om (.b (r14.2 != 0)) ?_
             rcases bft (r14.2 != 0) with hb23 | hb23
             ·replace hM := ifT hM hb23
              refine On (want := false) hb23 ?_
              refine On (want := false) hb23 ?_
              refine On (want := false) hb23 ?_
              refine o_guardU (j := 21) (by decide) rfl ?_
              refine o_guardU (j := 21) (by decide) rfl ?_
              refine o_guardU (j := 21) (by decide) rfl ?_
              refine On (want := false) hb23 ?_
              refine Oy (want := true) hb22 ?_
              refine Pt (.b true) hb23 ?_
              refine Pt (.b true) hb22 ?_
              refine Om (.b true) ?_
              refine Oz ?_
              obtain ⟨r24, hr24, hM⟩ := bindE hM
              refine o_call (bs := []) (by decide) rfl rfl ((W_law01_works hr24).le .nil) ?_
              refine o_pickT (v := .b r24) (e := true) (by decide) rfl rfl rfl ?_
              refine Oa (.b r24) ?_
              refine Ni ?_
              exact w_goto r24 (.k .nil) ⟨(hS.keep [] rfl).up (by omega), hM⟩
             ·replace hM := ifF hM hb23
              refine Oy (want := false) hb23 ?_
              refine Om (.i r15.2) ?_
              refine Oy (want := false) hb23 ?_
              refine Oi (.b (r15.2 == 0)) ?_
              refine Oy (want := false) hb23 ?_
              refine Om (.b (r15.2 == 0)) ?_
              rcases bft (r15.2 == 0) with hb25 | hb25
              ·replace hM := ifT hM hb25
               refine Oy (want := true) hb25 ?_
               refine Om (.i r15.1) ?_
               refine Oy (want := true) hb25 ?_
               refine Om (.i r14.1) ?_
               refine Oy (want := true) hb25 ?_
               refine Oi (.b (decide (r15.1 ≤ r14.1))) ?_
               refine Oy (want := false) hb23 ?_
               refine Pt (.b (decide (r15.1 ≤ r14.1))) hb25 ?_
               refine Oy (want := true) hb22 ?_
               refine Pf (.b (decide (r15.1 ≤ r14.1))) hb23 ?_
               refine Pt (.b (decide (r15.1 ≤ r14.1))) hb22 ?_
               refine Om (.b (decide (r15.1 ≤ r14.1))) ?_
               rcases bft (decide (r15.1 ≤ r14.1)) with hb26 | hb26
               ·replace hM := ifT hM hb26
                refine Oy (want := true) hb26 ?_
                obtain ⟨r27, hr27, hM⟩ := bindE hM
                refine o_call (bs := []) (by decide) rfl rfl ((W_law01_works hr27).le .nil) ?_
                refine Pt (.b r27) hb26 ?_
                refine Oa (.b r27) ?_
                refine Ni ?_
                exact w_goto r27 (.k .nil) ⟨(hS.keep [] rfl).up (by omega), hM⟩
               ·replace hM := ifF hM hb26
                refine On (want := true) hb26 ?_
                refine Pf (.b false) hb26 ?_
                refine Oa (.b false) ?_
                refine Ni ?_
                exact w_goto false (.k .nil) ⟨(hS.keep [] rfl).up (by omega), hM⟩
              ·replace hM := ifF hM hb25
               refine On (want := true) hb25 ?_
               refine On (want := true) hb25 ?_
               refine On (want := true) hb25 ?_
               refine Oy (want := false) hb23 ?_
               refine Pf (.b false) hb25 ?_
               refine Oy (want := true) hb22 ?_
               refine Pf (.b false) hb23 ?_
               refine Pt (.b false) hb22 ?_
               refine Om (.b false) ?_
               refine Og ?_
               refine o_pickF (v := .b false) (e := false) (by decide) rfl rfl rfl ?_
               refine Oa (.b false) ?_
               refine Ni ?_
               exact w_goto false (.k .nil) ⟨(hS.keep [] rfl).up (by omega), hM⟩
            ·replace hM := ifF hM hb22
             refine On (want := true) hb22 ?_
             refine On (want := true) hb22 ?_
             refine On (want := true) hb22 ?_
             refine o_guardU (j := 18) (by decide) rfl ?_
             refine o_guardU (j := 18) (by decide) rfl ?_
             refine o_guardU (j := 18) (by decide) rfl ?_
             refine o_guardU (j := 21) (by decide) rfl ?_
             refine o_guardU (j := 21) (by decide) rfl ?_
             refine o_guardU (j := 21) (by decide) rfl ?_
             refine o_guardU (j := 18) (by decide) rfl ?_
             refine On (want := true) hb22 ?_
             refine Pf (.b false) hb22 ?_
             refine Om (.b false) ?_
             refine Og ?_
             refine o_pickF (v := .b false) (e := false) (by decide) rfl rfl rfl ?_
             refine Oa (.b false) ?_
             refine Ni ?_
             exact w_goto false (.k .nil) ⟨(hS.keep [] rfl).up (by omega), hM⟩
           ·replace hM := ifF hM hb20
            refine On (want := true) hb20 ?_
            refine On (want := true) hb20 ?_
            refine Pf (.b false) hb20 ?_
            refine Om (.b false) ?_
            refine Og ?_
            refine Og ?_
            refine Og ?_
            refine o_guardU (j := 18) (by decide) rfl ?_
            refine o_guardU (j := 18) (by decide) rfl ?_
            refine o_guardU (j := 18) (by decide) rfl ?_
            refine o_guardU (j := 21) (by decide) rfl ?_
            refine o_guardU (j := 21) (by decide) rfl ?_
            refine o_guardU (j := 21) (by decide) rfl ?_
            refine o_guardU (j := 18) (by decide) rfl ?_
            refine Og ?_
            refine o_pickF (v := .b false) (e := false) (by decide) rfl rfl rfl ?_
            refine Om (.b false) ?_
            refine Og ?_
            refine o_pickF (v := .b false) (e := false) (by decide) rfl rfl rfl ?_
            refine Oa (.b false) ?_
            refine Ni ?_
            exact w_goto false (.k .nil) ⟨(hS.keep [] rfl).up (by omega), hM⟩
          ·replace hM := ifF hM hb18
           refine On (want := true) hb18 ?_
           refine On (want := true) hb18 ?_
           refine Pf (.b false) hb18 ?_
           refine Om (.b false) ?_
           refine Og ?_
           refine Og ?_
           refine o_pickF (v := .b false) (e := false) (by decide) rfl rfl rfl ?_
           refine Om (.b false) ?_
           refine Og ?_
           refine Og ?_
           refine Og ?_
           refine o_guardU (j := 18) (by decide) rfl ?_
           refine o_guardU (j := 18) (by decide) rfl ?_
           refine o_guardU (j := 18) (by decide) rfl ?_
           refine o_guardU (j := 21) (by decide) rfl ?_
           refine o_guardU (j := 21) (by decide) rfl ?_
           refine o_guardU (j := 21) (by decide) rfl ?_
           refine o_guardU (j := 18) (by decide) rfl ?_
           refine Og ?_
           refine o_pickF (v := .b false) (e := false) (by decide) rfl rfl rfl ?_
           refine Om (.b false) ?_
           refine Og ?_
           refine o_pickF (v := .b false) (e := false) (by decide) rfl rfl rfl ?_
           refine Oa (.b false) ?_
           refine Ni ?_
           exact w_goto false (.k .nil) ⟨(hS.keep [] rfl).up (by omega), hM⟩
         ·replace hM := ifF hM hb17
          refine On (want := true) hb17 ?_
          refine On (want := true) hb17 ?_
          refine On (want := true) hb17 ?_
          refine Pf (.b false) hb17 ?_
          refine Om (.b false) ?_
          refine Og ?_
          refine Og ?_
          refine o_pickF (v := .b false) (e := false) (by decide) rfl rfl rfl ?_
          refine Om (.b false) ?_
          refine Og ?_
          refine Og ?_
          refine o_pickF (v := .b false) (e := false) (by decide) rfl rfl rfl ?_
          refine Om (.b false) ?_
          refine Og ?_
          refine Og ?_
          refine Og ?_
          refine o_guardU (j := 18) (by decide) rfl ?_
          refine o_guardU (j := 18) (by decide) rfl ?_
          refine o_guardU (j := 18) (by decide) rfl ?_
          refine o_guardU (j := 21) (by decide) rfl ?_
          refine o_guardU (j := 21) (by decide) rfl ?_
          refine o_guardU (j := 21) (by decide) rfl ?_
          refine o_guardU (j := 18) (by decide) rfl ?_
          refine Og ?_
          refine o_pickF (v := .b false) (e := false) (by decide) rfl rfl rfl ?_
          refine Om (.b false) ?_
          refine Og ?_
          refine o_pickF (v := .b false) (e := false) (by decide) rfl rfl rfl ?_
          refine Oa (.b false) ?_
          refine Ni ?_
          exact w_goto false (.k .nil) ⟨(hS.keep [] rfl).up (by omega), hM⟩
       ·refine Sq ?_
        refine Rg 1 ?_
        refine Oa (.i 1) ?_
        refine Ni ?_
        refine Ws ?_
        refine r_block ?_
        refine w_loop (V := Int × (List Int)) (fun v => [(1, .sl .no 1 (a1.map cI)), (3, .ep (Wheel.cells a0)), (5, .ep [.i a2.Kind, .i a2.Notch]), (7, .i r5.1), (12, .ptr (g3 + 2) 0), (13, .i v.1)]) (fun v m7 H' g' => St (· < g) H0 [(g3 + 4 + 2, .row 3 v.2.length), (g3 + 2, .cells [.i r10.Round, .sl (.id (g3 + 4 + 2)) 1 (v.2.map cI), .sl .no 1 (r10.Coins.map cI)])] H' g' ∧ law01_CoinsMore_l1 n a0 a1 a2 r5 r10 m7 v.1 v.2 = some r) (n := n) (1, ([] : List Int)) (.k (.k (.k (.k (.k (.k .nil)))))) ⟨(hS.keep [true, true] rfl).up (by omega), hM⟩ ?_
        rintro ⟨v29, v30⟩ m7 H g7 ⟨hS, hM⟩
        obtain _ | m7 := m7
        ·exact nomatch (show none = some _ from hM)
        change wpA _ _ _ _ (Fr.of [(1, .sl .no 1 (a1.map cI)), (3, .ep (Wheel.cells a0)), (5, .ep [.i a2.Kind, .i a2.Notch]), (7, .i r5.1), (12, .ptr (g3 + 2) 0), (13, .i v29)]) _ _
        replace hS : St (· < g) H0 [(g3 + 4 + 2, .row 3 v30.length), (g3 + 2, .cells [.i r10.Round, .sl (.id (g3 + 4 + 2)) 1 (v30.map cI), .sl .no 1 (r10.Coins.map cI)])] H g7 := hS
        replace hM : law01_CoinsMore_l1_b n a0 a1 a2 r5 r10 (law01_CoinsMore_l1 n a0 a1 a2 r5 r10 m7) v29 v30 = some r := hM
        refine Sq ?_
        refine Sq ?_
        refine Rg 4 ?_
        refine Om (.i v29) ?_
        refine Of ((Wheel.cells a0)) ty_fo24_0 ?_
        refine Olp (.i a0.Round) ty_agg3 ty_sc3 ?_
        refine Oi (.b (decide (v29 ≤ a0.Round))) ?_
        refine Ni ?_
        refine Ws ?_
        rcases bft (decide (v29 ≤ a0.Round)) with hb31 | hb31
        ·replace hM := ifT hM hb31
         refine Ct hb31 ?_
         refine r_skip ?_
         refine Ws ?_
         refine w_join (J := (List Int)) (fun j => [(1, .sl .no 1 (a1.map cI)), (3, .ep (Wheel.cells a0)), (5, .ep [.i a2.Kind, .i a2.Notch]), (7, .i r5.1), (12, .ptr (g3 + 2) 0), (13, .i v29)]) (fun j H' g' => St (· < g) H0 [(g3 + 4 + 2, .row 3 j.length), (g3 + 2, .cells [.i r10.Round, .sl (.id (g3 + 4 + 2)) 1 (j.map cI), .sl .no 1 (r10.Coins.map cI)])] H' g' ∧ law01_CoinsMore_j6 (law01_CoinsMore_l1 n a0 a1 a2 r5 r10 m7) v29 j = some r) ?_ ?_
         ·rintro v32 H g8 ⟨hS, hM⟩
          change wpA _ _ _ _ (Fr.of [(1, .sl .no 1 (a1.map cI)), (3, .ep (Wheel.cells a0)), (5, .ep [.i a2.Kind, .i a2.Notch]), (7, .i r5.1), (12, .ptr (g3 + 2) 0), (13, .i v29)]) _ _
          replace hS : St (· < g) H0 [(g3 + 4 + 2, .row 3 v32.length), (g3 + 2, .cells [.i r10.Round, .sl (.id (g3 + 4 + 2)) 1 (v32.map cI), .sl .no 1 (r10.Coins.map cI)])] H g8 := hS
          replace hM : law01_CoinsMore_j6 (law01_CoinsMore_l1 n a0 a1 a2 r5 r10 m7) v29 v32 = some r := hM
          refine Rg 3 ?_
          refine Om (.i v29) ?_
          refine Oi (.i (w64 (v29 + 1))) ?_
          refine Oa (.i (w64 (v29 + 1))) ?_
          refine Ni ?_
          exact w_round (w64 (v29 + 1), v32) (Nat.lt_succ_self _) (.k (.k (.k (.k (.k (.k .nil)))))) ⟨(hS.keep [true, true] rfl).up (by omega), hM⟩
         ·refine r_block ?_
          refine w_join (J := Bool) (fun j => [(1, .sl .no 1 (a1.map cI)), (3, .ep (Wheel.cells a0)), (5, .ep [.i a2.Kind, .i a2.Notch]), (7, .i r5.1), (12, .ptr (g3 + 2) 0), (13, .i v29), (133, .b j)]) (fun j H' g' => St (· < g) H0 [(g3 + 4 + 2, .row 3 v30.length), (g3 + 2, .cells [.i r10.Round, .sl (.id (g3 + 4 + 2)) 1 (v30.map cI), .sl .no 1 (r10.Coins.map cI)])] H' g' ∧ law01_CoinsMore_j7 (law01_CoinsMore_l1 n a0 a1 a2 r5 r10 m7) v29 v30 j = some r) ?_ ?_
          ·rintro v33 H g9 ⟨hS, hM⟩
           change wpA _ _ _ _ (Fr.of [(1, .sl .no 1 (a1.map cI)), (3, .ep (Wheel.cells a0)), (5, .ep [.i a2.Kind, .i a2.Notch]), (7, .i r5.1), (12, .ptr (g3 + 2) 0), (13, .i v29), (133, .b v33)]) _ _
           replace hS : St (· < g) H0 [(g3 + 4 + 2, .row 3 v30.length), (g3 + 2, .cells [.i r10.Round, .sl (.id (g3 + 4 + 2)) 1 (v30.map cI), .sl .no 1 (r10.Coins.map cI)])] H g9 := hS
           replace hM : law01_CoinsMore_j7 (law01_CoinsMore_l1 n a0 a1 a2 r5 r10 m7) v29 v30 v33 = some r := hM
           rcases bft v33 with hb34 | hb34
           ·replace hM := ifT hM hb34
            refine Ct hb34 ?_
            refine Rg 7 ?_
            refine o_fieldP (by decide) ty_fo24_1 rfl ?_
            refine o_load (v := .sl (.id (g3 + 4 + 2)) 1 (v30.map cI)) 1 hS (by decide) rfl rfl .no (po ty_agg22 ty_sc22) ?_
            refine Om (.i v29) ?_
            refine o_buildSlice (es := [[.i v29]]) hS (by decide) ty_es22 ty_el22 rfl ty_ef22 rfl (by decide) (by omega) fun H hS => ?_
            obtain ⟨l35, hl35, hM⟩ := bindE hM
            refine o_append (xs := v30) (ys := ([v29] : List Int)) (zs := l35) (f := cI) (L' := [(g9 + 3, .row 3 1), (g3 + 4 + 2, .row 3 l35.length), (g3 + 2, .cells [.i r10.Round, .sl (.id (g3 + 4 + 2)) 1 (v30.map cI), .sl .no 1 (r10.Coins.map cI)])]) 1 hS (by decide) rfl rfl rfl rfl .no ty_es22 ty_el22 ty_ef22 hl35 rfl fun H hS => ?_
            refine o_fieldP (by decide) ty_fo24_1 rfl ?_
            refine o_store (v := .sl (.id (g3 + 4 + 2)) 1 (l35.map cI)) (ns := [.sl (.id (g3 + 4 + 2)) 1 (l35.map cI)]) (L' := [(g9 + 3, .row 3 1), (g3 + 4 + 2, .row 3 l35.length), (g3 + 2, .cells [.i r10.Round, .sl (.id (g3 + 4 + 2)) 1 (l35.map cI), .sl .no 1 (r10.Coins.map cI)])]) 2 hS rfl rfl .no rfl rfl ty_var22 nlb rfl fun H hS => ?_
            refine Ni ?_
            refine r_blk_normal ?_
            exact w_goto l35 (.k (.k (.k (.k (.k (.k .nil)))))) ⟨(hS.keep [false, true, true] rfl).up (by omega), hM⟩
           ·replace hM := ifF hM hb34
            refine Cf hb34 ?_
            refine r_skip ?_
            refine r_blk_normal ?_
            exact w_goto v30 (.k (.k (.k (.k (.k (.k .nil)))))) ⟨(hS.keep [true, true] rfl).up (by omega), hM⟩
          ·refine Rg 10 ?_
           refine Om (.i v29) ?_
           refine Of ([.i a2.Kind, .i a2.Notch]) ty_fo34_1 ?_
           refine Olp (.i a2.Notch) ty_agg3 ty_sc3 ?_
           refine Oi (.b (v29 == a2.Notch)) ?_
           refine Om (.b (v29 == a2.Notch)) ?_
           rcases bft (v29 == a2.Notch) with hb36 | hb36
           ·replace hM := ifT hM hb36
            refine On (want := false) hb36 ?_
            refine On (want := false) hb36 ?_
            refine On (want := false) hb36 ?_
            refine On (want := false) hb36 ?_
            refine Pt (.b true) hb36 ?_
            refine Ni ?_
            exact w_goto true (.k (.k (.k (.k (.k (.k (.k .nil))))))) ⟨(hS.keep [true, true] rfl).up (by omega), hM⟩
           ·replace hM := ifF hM hb36
            refine Oy (want := false) hb36 ?_
            refine Of ((Wheel.cells a0)) ty_fo24_1 ?_
            refine Oy (want := false) hb36 ?_
            refine Olp (.sl .no 1 (a0.Notches.map cI)) ty_agg22 ty_sc22 ?_
            refine Oy (want := false) hb36 ?_
            refine Om (.i v29) ?_
            refine Oy (want := false) hb36 ?_
            obtain ⟨r37, hr37, hM⟩ := bindE hM
            refine o_call (bs := [.sl .no 1 (a0.Notches.map cI), .i v29]) (by decide) rfl rfl ((W_ref01_In hr37).le (.k (.k .nil))) ?_
            refine Pf (.b r37) hb36 ?_
            refine Ni ?_
            exact w_goto r37 (.k (.k (.k (.k (.k (.k (.k .nil))))))) ⟨(hS.keep [true, true] rfl).up (by omega), hM⟩
        ·replace hM := ifF hM hb31
         refine Cf hb31 ?_
         refine r_exit ?_
         refine r_then_exit ?_
         refine w_round_exit ?_
         refine r_blk_exit ?_
         exact w_goto v30 (.k (.k (.k (.k .nil)))) ⟨(hS.keep [true, true] rfl).up (by omega), hM⟩
     ·refine Rg 23 ?_
      refine Of ([.i a2.Kind, .i a2.Notch]) ty_fo34_1 ?_
      refine Olp (.i a2.Notch) ty_agg3 ty_sc3 ?_
      refine Oi (.b (decide (a2.Notch < 1))) ?_
      refine Om (.b (decide (a2.Notch < 1))) ?_
      rcases bft (decide (a2.Notch < 1)) with hb38 | hb38
      ·replace hM := ifT hM hb38
       refine On (want := false) hb38 ?_
       refine On (want := false) hb38 ?_
       refine On (want := false) hb38 ?_
       refine On (want := false) hb38 ?_
       refine On (want := false) hb38 ?_
       refine Pt (.b true) hb38 ?_
       refine Om (.b true) ?_
       refine Og ?_
       refine Og ?_
       refine Og ?_
       refine Og ?_
       refine Og ?_
       refine o_pickT (v := .b true) (e := true) (by decide) rfl rfl rfl ?_
       refine Om (.b true) ?_
       refine Og ?_
       refine Og ?_
       refine Og ?_
       refine Og ?_
       refine o_pickT (v := .b true) (e := true) (by decide) rfl rfl rfl ?_
       refine Ni ?_
       exact w_goto true (.k (.k (.k (.k (.k .nil))))) ⟨(hS.keep [] rfl).up (by omega), hM⟩
      ·replace hM := ifF hM hb38
       refine Oy (want := false) hb38 ?_
       refine Of ([.i a2.Kind, .i a2.Notch]) ty_fo34_1 ?_
       refine Oy (want := false) hb38 ?_
       refine Olp (.i a2.Notch) ty_agg3 ty_sc3 ?_
       refine Oy (want := false) hb38 ?_
       refine Of ((Wheel.cells a0)) ty_fo24_0 ?_
       refine Oy (want := false) hb38 ?_
       refine Olp (.i a0.Round) ty_agg3 ty_sc3 ?_
       refine Oy (want := false) hb38 ?_
       refine Oi (.b (decide (a2.Notch > a0.Round))) ?_
       refine Pf (.b (decide (a2.Notch > a0.Round))) hb38 ?_
       refine Om (.b (decide (a2.Notch > a0.Round))) ?_
       rcases bft (decide (a2.Notch > a0.Round)) with hb39 | hb39
       ·replace hM := ifT hM hb39
        refine On (want := false) hb39 ?_
        refine On (want := false) hb39 ?_
        refine On (want := false) hb39 ?_
        refine On (want := false) hb39 ?_
        refine On (want := false) hb39 ?_
        refine Pt (.b true) hb39 ?_
        refine Om (.b true) ?_
        refine Og ?_
        refine Og ?_
        refine Og ?_
        refine Og ?_
        refine o_pickT (v := .b true) (e := true) (by decide) rfl rfl rfl ?_
        refine Ni ?_
        exact w_goto true (.k (.k (.k (.k (.k .nil))))) ⟨(hS.keep [] rfl).up (by omega), hM⟩
       ·replace hM := ifF hM hb39
        refine Oy (want := false) hb39 ?_
        refine Of ((Wheel.cells a0)) ty_fo24_1 ?_
        refine Oy (want := false) hb39 ?_
        refine Olp (.sl .no 1 (a0.Notches.map cI)) ty_agg22 ty_sc22 ?_
        refine Oy (want := false) hb39 ?_
        refine Of ([.i a2.Kind, .i a2.Notch]) ty_fo34_1 ?_
        refine Oy (want := false) hb39 ?_
        refine Olp (.i a2.Notch) ty_agg3 ty_sc3 ?_
        refine Oy (want := false) hb39 ?_
        obtain ⟨r40, hr40, hM⟩ := bindE hM
        refine o_call (bs := [.sl .no 1 (a0.Notches.map cI), .i a2.Notch]) (by decide) rfl rfl ((W_ref01_In hr40).le (.k (.k .nil))) ?_
        refine Pf (.b r40) hb39 ?_
        refine Om (.b r40) ?_
        rcases bft r40 with hb41 | hb41
        ·replace hM := ifT hM hb41
         refine On (want := false) hb41 ?_
         refine On (want := false) hb41 ?_
         refine On (want := false) hb41 ?_
         refine On (want := false) hb41 ?_
         refine Pt (.b true) hb41 ?_
         refine Ni ?_
         exact w_goto true (.k (.k (.k (.k (.k .nil))))) ⟨(hS.keep [] rfl).up (by omega), hM⟩
        ·replace hM := ifF hM hb41
         refine Oy (want := false) hb41 ?_
         refine Of ((Wheel.cells a0)) ty_fo24_1 ?_
         refine Oy (want := false) hb41 ?_
         refine Olp (.sl .no 1 (a0.Notches.map cI)) ty_agg22 ty_sc22 ?_
         refine Oy (want := false) hb41 ?_
         refine o_len (n := a0.Notches.length) (by decide) rfl (List.length_map _) ty_isl22 ?_
         refine Oy (want := false) hb41 ?_
         refine Oi (.b (decide ((a0.Notches.length : Int) ≥ 12))) ?_
         refine Pf (.b (decide ((a0.Notches.length : Int) ≥ 12))) hb41 ?_
         refine Ni ?_
         exact w_goto (decide ((a0.Notches.length : Int) ≥ 12)) (.k (.k (.k (.k (.k .nil))))) ⟨(hS.keep [] rfl).up (by omega), hM⟩
    ·refine w_join (J := Bool) (fun j => [(1, .sl .no 1 (a1.map cI)), (3, .ep (Wheel.cells a0)), (5, .ep [.i a2.Kind, .i a2.Notch]), (7, .i r5.1), (59, .b j)]) (fun j H' g' => St (· < g) H0 [] H' g' ∧ law01_CoinsMore_j8 n a0 a1 a2 r5 j = some r) ?_ ?_
     ·rintro v42 H g10 ⟨hS, hM⟩
      change wpA _ _ _ _ (Fr.of [(1, .sl .no 1 (a1.map cI)), (3, .ep (Wheel.cells a0)), (5, .ep [.i a2.Kind, .i a2.Notch]), (7, .i r5.1), (59, .b v42)]) _ _
      replace hS : St (· < g) H0 [] H g10 := hS
      replace hM : law01_CoinsMore_j8 n a0 a1 a2 r5 v42 = some r := hM
      rcases bft v42 with hb43 | hb43
      ·replace hM := ifT hM hb43
       refine Ct hb43 ?_
       refine Sq ?_
       refine Rg 3 ?_
       refine Om (.sl .no 1 (a1.map cI)) ?_
       obtain ⟨r44, hr44, hM⟩ := bindE hM
       refine o_thaw (mk := (fun s => s)) (k := 1) (e := 3) (es := (r44.map cI)) (bs := [.sl .no 1 (a1.map cI), .sl .nil 0 []]) hS (by decide) rfl rfl ((Own0.of_fresh (WF_law01_joined hr44)).le (.k (.cons (.sl0 .nil 1 0) .nil))) id_ok (pl_cons (.sl _ _ (pures_map (fun x => (pl_cons (.v _) pl_nil)))) (pl_cons (.nil _ _ (fun _ h => nomatch h)) pl_nil)) (fl_map (fun x => (fl_cons fl_nil))) (List.length_map _) (by omega) fun H hS => ?_
       refine Oa (msn (g10 + 1) 1 r44.length) ?_
       refine Ni ?_
       refine Ws ?_
       refine Sq ?_
       refine Rg 8 ?_
       refine Om (msn (g10 + 1) 1 r44.length) ?_
       refine Of ([.i a2.Kind, .i a2.Notch]) ty_fo34_0 ?_
       refine Olp (.i a2.Kind) ty_agg3 ty_sc3 ?_
       obtain ⟨x45, hx45, hM⟩ := bindE hM
       refine o_indexM (xs := r44) (f := cI) (z := a2.Kind) (u := x45) hS (by decide) rfl rfl ty_es22 hx45 ?_
       refine o_loadM (xs := r44) (z := a2.Kind) (u := x45) hS (by decide) rfl hx45 .no ty_agg3 ty_sc3 ?_
       refine Oi (.i (w64 (x45 + 1))) ?_
       obtain ⟨x46, hx46, hM⟩ := bindE hM
       refine o_indexM (xs := r44) (f := cI) (z := a2.Kind) (u := x46) hS (by decide) rfl rfl ty_es22 hx46 ?_
       refine o_storeM (xs := r44) (z := a2.Kind) (u := x46) (v := (w64 (x45 + 1))) hS rfl hx46 .no rfl ty_var3 fun H hS => ?_
       refine Ni ?_
       refine w_iceT (t := 9) (k := 1) (es := (r44.set (Int.toNat a2.Kind) (w64 (x45 + 1))).map cI) hS.thaw (by rw [msl_msn hS.len]; rfl) (by decide) (each_map (fun _ => rfl)) (fl_map (fun x => (fl_cons fl_nil))) fun H hS => ?_
       refine Ws ?_
       refine w_join (J := Bool) (fun j => [(1, .sl .no 1 (a1.map cI)), (3, .ep (Wheel.cells a0)), (5, .ep [.i a2.Kind, .i a2.Notch]), (7, .i r5.1), (9, .sl .no 1 ((r44.set (Int.toNat a2.Kind) (w64 (x45 + 1))).map cI)), (77, .b j)]) (fun j H' g' => St (· < g) H0 [] H' g' ∧ law01_CoinsMore_j9 n a0 a1 a2 r5 r44 x45 j = some r) ?_ ?_
       ·rintro v47 H g11 ⟨hS, hM⟩
        change wpA _ _ _ _ (Fr.of [(1, .sl .no 1 (a1.map cI)), (3, .ep (Wheel.cells a0)), (5, .ep [.i a2.Kind, .i a2.Notch]), (7, .i r5.1), (9, .sl .no 1 ((r44.set (Int.toNat a2.Kind) (w64 (x45 + 1))).map cI)), (77, .b v47)]) _ _
        replace hS : St (· < g) H0 [] H g11 := hS
        replace hM : law01_CoinsMore_j9 n a0 a1 a2 r5 r44 x45 v47 = some r := hM
        rcases bft v47 with hb48 | hb48
        ·replace hM := ifT hM hb48
         refine Ct hb48 ?_
         refine Sq ?_
         refine Rg 8 ?_
         refine Olg (.agg (Wheel.cells a0)) ty_agg24 ?_
         refine Om (.sl .no 1 ((r44.set (Int.toNat a2.Kind) (w64 (x45 + 1))).map cI)) ?_
         obtain ⟨r49, hr49, hM⟩ := bindE hM
         refine o_call (bs := [.agg (Wheel.cells a0), .sl .no 1 ((r44.set (Int.toNat a2.Kind) (w64 (x45 + 1))).map cI)]) (by decide) rfl rfl ((W_coins_Most hr49).le (.k (.k .nil))) ?_
         refine Om (.tup [.i r49.1, .i r49.2]) ?_
         refine Ox (.i r49.1) ?_
         refine Ox (.i r49.2) ?_
         refine Oa (.i r49.1) ?_
         refine Oa (.i r49.2) ?_
         refine Ni ?_
         refine Ws ?_
         refine w_join (J := Bool) (fun j => [(1, .sl .no 1 (a1.map cI)), (3, .ep (Wheel.cells a0)), (5, .ep [.i a2.Kind, .i a2.Notch]), (7, .i r5.1), (90, .b j)]) (fun j H' g' => St (· < g) H0 [] H' g' ∧ law01_CoinsMore_j10 n a0 a1 a2 r5 j = some r) ?_ ?_
         ·rintro v50 H g12 ⟨hS, hM⟩
          change wpA _ _ _ _ (Fr.of [(1, .sl .no 1 (a1.map cI)), (3, .ep (Wheel.cells a0)), (5, .ep [.i a2.Kind, .i a2.Notch]), (7, .i r5.1), (90, .b v50)]) _ _
          replace hS : St (· < g) H0 [] H g12 := hS
          replace hM : law01_CoinsMore_j10 n a0 a1 a2 r5 v50 = some r := hM
          rcases bft v50 with hb51 | hb51
          ·replace hM := ifT hM hb51
           refine Ct hb51 ?_
           refine Sq ?_
           refine Rg 1 ?_
           refine Oa (.b false) ?_
           refine Ni ?_
           refine Ws ?_
           refine r_ret ?_
           refine w_goto_ret ?_
           refine w_end (x := .b false) (f := fun r => .b r) (.inr rfl) ?_ (.refl _) (Option.some.inj hM) hS
           exact (res_one (res_tmp (x := .b false) rfl))
          ·replace hM := ifF hM hb51
           refine Cf hb51 ?_
           refine r_skip ?_
           exact w_goto () (.k (.k (.k (.k .nil)))) ⟨(hS.keep [] rfl).up (by omega), hM⟩
         ·refine Rg 7 ?_
          refine Om (.i r49.2) ?_
          refine Oi (.b (r49.2 != 0)) ?_
          refine Om (.b (r49.2 != 0)) ?_
          rcases bft (r49.2 != 0) with hb52 | hb52
          ·replace hM := ifT hM hb52
           refine On (want := false) hb52 ?_
           refine On (want := false) hb52 ?_
           refine On (want := false) hb52 ?_
           refine Pt (.b true) hb52 ?_
           refine Ni ?_
           exact w_goto true (.k (.k (.k (.k (.k .nil))))) ⟨(hS.keep [] rfl).up (by omega), hM⟩
          ·replace hM := ifF hM hb52
           refine Oy (want := false) hb52 ?_
           refine Om (.i r49.1) ?_
           refine Oy (want := false) hb52 ?_
           refine Om (.i r5.1) ?_
           refine Oy (want := false) hb52 ?_
           refine Oi (.b (decide (r49.1 < r5.1))) ?_
           refine Pf (.b (decide (r49.1 < r5.1))) hb52 ?_
           refine Ni ?_
           exact w_goto (decide (r49.1 < r5.1)) (.k (.k (.k (.k (.k .nil))))) ⟨(hS.keep [] rfl).up (by omega), hM⟩
        ·replace hM := ifF hM hb48
         refine Cf hb48 ?_
         refine r_skip ?_
         exact w_goto () (.k (.k (.k (.k .nil)))) ⟨(hS.keep [] rfl).up (by omega), hM⟩
       ·refine Rg 9 ?_
        refine Olg (.agg (Wheel.cells a0)) ty_agg24 ?_
        refine Om (.sl .no 1 ((r44.set (Int.toNat a2.Kind) (w64 (x45 + 1))).map cI)) ?_
        obtain ⟨r53, hr53, hM⟩ := bindE hM
        refine o_call (bs := [.agg (Wheel.cells a0), .sl .no 1 ((r44.set (Int.toNat a2.Kind) (w64 (x45 + 1))).map cI)]) (by decide) rfl rfl ((W_ref01_IsPurse hr53).le (.k (.k .nil))) ?_
        refine Om (.b r53) ?_
        rcases bft r53 with hb54 | hb54
        ·replace hM := ifT hM hb54
         refine Oy (want := true) hb54 ?_
         refine Olg (.agg (Wheel.cells a0)) ty_agg24 ?_
         refine Oy (want := true) hb54 ?_
         refine Om (.sl .no 1 ((r44.set (Int.toNat a2.Kind) (w64 (x45 + 1))).map cI)) ?_
         refine Oy (want := true) hb54 ?_
         obtain ⟨r55, hr55, hM⟩ := bindE hM
         refine o_call (bs := [.agg (Wheel.cells a0), .sl .no 1 ((r44.set (Int.toNat a2.Kind) (w64 (x45 + 1))).map cI)]) (by decide) rfl rfl ((W_law01_rich hr55).le (.k (.k .nil))) ?_
         refine Oy (want := true) hb54 ?_
         refine o_not (e := r55) (by decide) rfl ?_
         refine Pt (.b (!r55)) hb54 ?_
         refine Ni ?_
         exact w_goto (!r55) (.k (.k (.k (.k (.k (.k .nil)))))) ⟨(hS.keep [] rfl).up (by omega), hM⟩
        ·replace hM := ifF hM hb54
         refine On (want := true) hb54 ?_
         refine On (want := true) hb54 ?_
         refine On (want := true) hb54 ?_
         refine On (want := true) hb54 ?_
         refine Pf (.b false) hb54 ?_
         refine Ni ?_
         exact w_goto false (.k (.k (.k (.k (.k (.k .nil)))))) ⟨(hS.keep [] rfl).up (by omega), hM⟩
      ·replace hM := ifF hM hb43
       refine Cf hb43 ?_
       refine r_skip ?_
       exact w_goto () (.k (.k (.k (.k .nil)))) ⟨(hS.keep [] rfl).up (by omega), hM⟩
     ·refine Rg 11 ?_
      refine Of ([.i a2.Kind, .i a2.Notch]) ty_fo34_0 ?_
      refine Olp (.i a2.Kind) ty_agg3 ty_sc3 ?_
      refine Oi (.b (decide (a2.Kind ≥ 0))) ?_
      refine Om (.b (decide (a2.Kind ≥ 0))) ?_
      rcases bft (decide (a2.Kind ≥ 0)) with hb56 | hb56
      ·replace hM := ifT hM hb56
       refine Oy (want := true) hb56 ?_
       refine Of ([.i a2.Kind, .i a2.Notch]) ty_fo34_0 ?_
       refine Oy (want := true) hb56 ?_
       refine Olp (.i a2.Kind) ty_agg3 ty_sc3 ?_
       refine Oy (want := true) hb56 ?_
       refine Of ((Wheel.cells a0)) ty_fo24_2 ?_
       refine Oy (want := true) hb56 ?_
       refine Olp (.sl .no 1 (a0.Coins.map cI)) ty_agg22 ty_sc22 ?_
       refine Oy (want := true) hb56 ?_
       refine o_len (n := a0.Coins.length) (by decide) rfl (List.length_map _) ty_isl22 ?_
       refine Oy (want := true) hb56 ?_
       refine Oi (.b (decide (a2.Kind < (a0.Coins.length : Int)))) ?_
       refine Pt (.b (decide (a2.Kind < (a0.Coins.length : Int)))) hb56 ?_
       refine Ni ?_
       exact w_goto (decide (a2.Kind < (a0.Coins.length : Int))) (.k (.k (.k (.k (.k .nil))))) ⟨(hS.keep [] rfl).up (by omega), hM⟩
      ·replace hM := ifF hM hb56
       refine On (want := true) hb56 ?_
       refine On (want := true) hb56 ?_
       refine On (want := true) hb56 ?_
       refine On (want := true) hb56 ?_
       refine On (want := true) hb56 ?_
       refine On (want := true) hb56 ?_
       refine Pf (.b false) hb56 ?_
       refine Ni ?_
       exact w_goto false (.k (.k (.k (.k (.k .nil))))) ⟨(hS.keep [] rfl).up (by omega), hM⟩
 ·refine Rg 19 ?_
  refine Olg (.agg (Wheel.cells a0)) ty_agg24 ?_
  obtain ⟨r57, hr57, hM⟩ := bindE hM
  refine o_call (bs := [.agg (Wheel.cells a0)]) (by decide) rfl rfl ((W_law01_isWheel hr57).le (.k .nil)) ?_
  refine o_not (e := r57) (by decide) rfl ?_
  refine Om (.b (!r57)) ?_
  rcases bft (!r57) with hb58 | hb58
  ·replace hM := ifT hM hb58
   refine On (want := false) hb58 ?_
   refine On (want := false) hb58 ?_
   refine On (want := false) hb58 ?_
   refine Pt (.b true) hb58 ?_
   refine Om (.b true) ?_
   refine Og ?_
   refine Og ?_
   refine Og ?_
   refine Og ?_
   refine o_pickT (v := .b true) (e := true) (by decide) rfl rfl rfl ?_
   refine Om (.b true) ?_
   refine Og ?_
   refine Og ?_
   refine Og ?_
   refine o_pickT (v := .b true) (e := true) (by decide) rfl rfl rfl ?_
   refine Ni ?_
   exact w_goto true (.k (.k (.k (.k .nil)))) ⟨(hS.keep [] rfl).up (by omega), hM⟩
  ·replace hM := ifF hM hb58
   refine Oy (want := false) hb58 ?_
   refine Om (.sl .no 1 (a1.map cI)) ?_
   refine Oy (want := false) hb58 ?_
   refine o_len (n := a1.length) (by decide) rfl (List.length_map _) ty_isl22 ?_
   refine Oy (want := false) hb58 ?_
   refine Oi (.b (decide ((a1.length : Int) > 40))) ?_
   refine Pf (.b (decide ((a1.length : Int) > 40))) hb58 ?_
   refine Om (.b (decide ((a1.length : Int) > 40))) ?_
   rcases bft (decide ((a1.length : Int) > 40)) with hb59 | hb59
   ·replace hM := ifT hM hb59
    refine On (want := false) hb59 ?_
    refine On (want := false) hb59 ?_
    refine On (want := false) hb59 ?_
    refine On (want := false) hb59 ?_
    refine Pt (.b true) hb59 ?_
    refine Om (.b true) ?_
    refine Og ?_
    refine Og ?_
    refine Og ?_
    refine o_pickT (v := .b true) (e := true) (by decide) rfl rfl rfl ?_
    refine Ni ?_
    exact w_goto true (.k (.k (.k (.k .nil)))) ⟨(hS.keep [] rfl).up (by omega), hM⟩
   ·replace hM := ifF hM hb59
    refine Oy (want := false) hb59 ?_
    refine Olg (.agg (Wheel.cells a0)) ty_agg24 ?_
    refine Oy (want := false) hb59 ?_
    refine Om (.sl .no 1 (a1.map cI)) ?_
    refine Oy (want := false) hb59 ?_
    obtain ⟨r60, hr60, hM⟩ := bindE hM
    refine o_call (bs := [.agg (Wheel.cells a0), .sl .no 1 (a1.map cI)]) (by decide) rfl rfl ((W_ref01_IsPurse hr60).le (.k (.k .nil))) ?_
    refine Oy (want := false) hb59 ?_
    refine o_not (e := r60) (by decide) rfl ?_
    refine Pf (.b (!r60)) hb59 ?_
    refine Om (.b (!r60)) ?_
    rcases bft (!r60) with hb61 | hb61
    ·replace hM := ifT hM hb61
     refine On (want := false) hb61 ?_
     refine On (want := false) hb61 ?_
     refine On (want := false) hb61 ?_
     refine Pt (.b true) hb61 ?_
     refine Ni ?_
     exact w_goto true (.k (.k (.k (.k .nil)))) ⟨(hS.keep [] rfl).up (by omega), hM⟩
    ·replace hM := ifF hM hb61
     refine Oy (want := false) hb61 ?_
     refine Olg (.agg (Wheel.cells a0)) ty_agg24 ?_
     refine Oy (want := false) hb61 ?_
     refine Om (.sl .no 1 (a1.map cI)) ?_
     refine Oy (want := false) hb61 ?_
     obtain ⟨r62, hr62, hM⟩ := bindE hM
     refine o_call (bs := [.agg (Wheel.cells a0), .sl .no 1 (a1.map cI)]) (by decide) rfl rfl ((W_law01_rich hr62).le (.k (.k .nil))) ?_
     refine Pf (.b r62) hb61 ?_
     refine Ni ?_
     exact w_goto r62 (.k (.k (.k (.k .nil)))) ⟨(hS.keep [] rfl).up (by omega), hM⟩
end Go.Proofs.Ytapcibbbmeomkaa
