/-
  The code returns what the functions say (printed by gen.py).
  Conditions: none.
-/
import Derived.Test.YtapcibbbmeomkaaWkCoinsWasted2
import Derived.Test.YtapcibbbmeomkaaSh
set_option linter.all false
namespace Go.Proofs.Ytapcibbbmeomkaa
open Go Go.AM Go.Law
set_option linter.unusedVariables false
set_option maxRecDepth 4000
set_option maxHeartbeats 4000000
theorem W_ref01_Rising {n : Nat} {a0 : List Int} {a1 : Int} {a2 : Int} {r : Bool} (hM : ref01_Rising n a0 a1 a2 = some r) : PureSat Try.prog 73 [.sl .no 1 (a0.map cI), .i a1, .i a2] (.b r) := by
 refine pure_of_wp mixed Try.func73 rfl (by decide) Try.ntmps73 (by simp) ?pure fun H0 g hf => ?_
 case pure => exact .v _
 rw [frame0_of]
 change wpA _ _ _ _ (Fr.of [(0, .sl .no 1 (a0.map cI)), (1, .i a1), (2, .i a2)]) H0 g
 have hS := St.start hf
 refine Sq ?_
 refine Rg 1 ?_
 refine Oa (.b false) ?_
 refine Ni ?_
 refine Ws ?_
 refine w_join (J := Unit) (fun j => []) (fun j H' g' => St (· < g) H0 [] H' g' ∧ ref01_Rising_j1 = some r) ?_ ?_
 ·rintro _ H g1 ⟨hS, hM⟩
  change wpA _ _ _ _ (Fr.of []) _ _
  replace hS : St (· < g) H0 [] H g1 := hS
  replace hM : ref01_Rising_j1 = some r := hM
  refine Sq ?_
  refine Rg 1 ?_
  refine Oa (.b true) ?_
  refine Ni ?_
  refine Ws ?_
  refine r_ret ?_
  refine w_end (x := .b true) (f := fun r => .b r) (.inr rfl) ?_ (.refl _) (Option.some.inj hM) hS
  exact (res_one (res_tmp (x := .b true) rfl))
 ·refine Sq ?_
  refine Rg 1 ?_
  refine Oa (.i 0) ?_
  refine Ni ?_
  refine Ws ?_
  refine r_block ?_
  refine w_loop (V := Int) (fun v => [(0, .sl .no 1 (a0.map cI)), (1, .i a1), (2, .i a2), (7, .i v)]) (fun v m2 H' g' => St (· < g) H0 [] H' g' ∧ ref01_Rising_l1 a0 a1 a2 m2 v = some r) (n := n) 0 (.k (.k (.k (.k .nil)))) ⟨(hS.keep [] rfl).up (by omega), hM⟩ ?_
  rintro v1 m2 H g2 ⟨hS, hM⟩
  obtain _ | m2 := m2
  ·exact nomatch (show none = some _ from hM)
  change wpA _ _ _ _ (Fr.of [(0, .sl .no 1 (a0.map cI)), (1, .i a1), (2, .i a2), (7, .i v1)]) _ _
  replace hS : St (· < g) H0 [] H g2 := hS
  replace hM : ref01_Rising_l1_b a0 a1 a2 (ref01_Rising_l1 a0 a1 a2 m2) v1 = some r := hM
  refine Sq ?_
  refine Sq ?_
  refine Rg 4 ?_
  refine Om (.i v1) ?_
  refine Om (.sl .no 1 (a0.map cI)) ?_
  refine o_len (n := a0.length) (by decide) rfl (List.length_map _) ty_isl22 ?_
  refine Oi (.b (decide (v1 < (a0.length : Int)))) ?_
  refine Ni ?_
  refine Ws ?_
  rcases bft (decide (v1 < (a0.length : Int))) with hb2 | hb2
  ·replace hM := ifT hM hb2
   refine Ct hb2 ?_
   refine r_skip ?_
   refine Ws ?_
   refine Sq ?_
   refine r_block ?_
   refine w_join (J := Bool) (fun j => [(0, .sl .no 1 (a0.map cI)), (1, .i a1), (2, .i a2), (7, .i v1), (37, .b j)]) (fun j H' g' => St (· < g) H0 [] H' g' ∧ ref01_Rising_j2 (ref01_Rising_l1 a0 a1 a2 m2) v1 j = some r) ?_ ?_
   ·rintro v3 H g3 ⟨hS, hM⟩
    change wpA _ _ _ _ (Fr.of [(0, .sl .no 1 (a0.map cI)), (1, .i a1), (2, .i a2), (7, .i v1), (37, .b v3)]) _ _
    replace hS : St (· < g) H0 [] H g3 := hS
    replace hM : ref01_Rising_j2 (ref01_Rising_l1 a0 a1 a2 m2) v1 v3 = some r := hM
    rcases bft v3 with hb4 | hb4
    ·replace hM := ifT hM hb4
     refine Ct hb4 ?_
     refine Sq ?_
     refine Rg 1 ?_
     refine Oa (.b false) ?_
     refine Ni ?_
     refine Ws ?_
     refine r_ret ?_
     refine r_blk_ret ?_
     refine r_then_ret ?_
     refine w_round_ret ?_
     refine r_blk_ret ?_
     refine w_goto_ret ?_
     refine w_end (x := .b false) (f := fun r => .b r) (.inr rfl) ?_ (.refl _) (Option.some.inj hM) hS
     exact (res_one (res_tmp (x := .b false) rfl))
    ·replace hM := ifF hM hb4
     refine Cf hb4 ?_
     refine r_skip ?_
     refine r_blk_normal ?_
     refine Ws ?_
     refine Rg 3 ?_
     refine Om (.i v1) ?_
     refine Oi (.i (w64 (v1 + 1))) ?_
     refine Oa (.i (w64 (v1 + 1))) ?_
     refine Ni ?_
     exact w_round (w64 (v1 + 1)) (Nat.lt_succ_self _) (.k (.k (.k (.k .nil)))) ⟨(hS.keep [] rfl).up (by omega), hM⟩
   ·have hS0 := hS
    refine r_draw (n := 24) rfl (by kernel_rfl) ?_
    refine Om (.sl .no 1 (a0.map cI)) ?_
    refine Om (.i v1) ?_
    obtain ⟨x5, hx5, hM⟩ := bindE hM
    refine o_index (xs := a0) (f := cI) (z := v1) (u := x5) (by decide) rfl rfl ty_es22 hx5 ?_
    refine Olp (.i x5) ty_agg3 ty_sc3 ?_
    refine Om (.i a1) ?_
    refine Om (.i a2) ?_
    obtain ⟨r6, hr6, hM⟩ := bindE hM
    refine o_call (bs := [.i x5, .i a1, .i a2]) (by decide) rfl rfl ((W_ref01_Within hr6).le (.k (.k (.k .nil)))) ?_
    refine o_not (e := r6) (by decide) rfl ?_
    refine Om (.b (!r6)) ?_
    rcases bft (!r6) with hb7 | hb7
    ·replace hM := ifT hM hb7
     refine On (want := false) hb7 ?_
     refine On (want := false) hb7 ?_
     refine On (want := false) hb7 ?_
     refine o_guardU (j := 11) (by decide) rfl ?_
     refine o_guardU (j := 11) (by decide) rfl ?_
     refine o_guardU (j := 11) (by decide) rfl ?_
     refine o_guardU (j := 11) (by decide) rfl ?_
     refine o_guardU (j := 11) (by decide) rfl ?_
     refine o_guardU (j := 11) (by decide) rfl ?_
     refine o_guardU (j := 11) (by decide) rfl ?_
     refine o_guardU (j := 11) (by decide) rfl ?_
     refine o_guardU (j := 11) (by decide) rfl ?_
     refine o_guardU (j := 11) (by decide) rfl ?_
     refine On (want := false) hb7 ?_
     refine Pt (.b true) hb7 ?_
     refine Ni ?_
     exact w_goto true (.k (.k (.k (.k (.k .nil))))) ⟨(hS.keep [] rfl).up (by omega), hM⟩
    ·replace hM := ifF hM hb7
     refine Oy (want := false) hb7 ?_
     refine Om (.i v1) ?_
     refine Oy (want := false) hb7 ?_
     refine Oi (.b (decide (v1 > 0))) ?_
     refine Oy (want := false) hb7 ?_
     refine Om (.b (decide (v1 > 0))) ?_
     rcases bft (decide (v1 > 0)) with hb8 | hb8
     ·replace hM := ifT hM hb8
      refine Oy (want := true) hb8 ?_
      refine Om (.sl .no 1 (a0.map cI)) ?_
      refine Oy (want := true) hb8 ?_
      refine Om (.i v1) ?_
      refine Oy (want := true) hb8 ?_
      obtain ⟨x9, hx9, hM⟩ := bindE hM
      refine o_index (xs := a0) (f := cI) (z := v1) (u := x9) (by decide) rfl rfl ty_es22 hx9 ?_
      refine Oy (want := true) hb8 ?_
      refine Olp (.i x9) ty_agg3 ty_sc3 ?_
      refine Oy (want := true) hb8 ?_
      refine Om (.sl .no 1 (a0.map cI)) ?_
      refine Oy (want := true) hb8 ?_
      refine Om (.i v1) ?_
      refine Oy (want := true) hb8 ?_
      refine Oi (.i (w64 (v1 - 1))) ?_
      refine Oy (want := true) hb8 ?_
      obtain ⟨x10, hx10, hM⟩ := bindE hM
      refine o_index (xs := a0) (f := cI) (z := (w64 (v1 - 1))) (u := x10) (by decide) rfl rfl ty_es22 hx10 ?_
      refine Oy (want := true) hb8 ?_
      refine Olp (.i x10) ty_agg3 ty_sc3 ?_
      refine Oy (want := true) hb8 ?_
      refine Oi (.b (decide (x9 ≤ x10))) ?_
      refine Oy (want := false) hb7 ?_
      refine Pt (.b (decide (x9 ≤ x10))) hb8 ?_
      refine Pf (.b (decide (x9 ≤ x10))) hb7 ?_
      refine Ni ?_
      exact w_goto (decide (x9 ≤ x10)) (.k (.k (.k (.k (.k .nil))))) ⟨(hS.keep [] rfl).up (by omega), hM⟩
     ·replace hM := ifF hM hb8
      refine On (want := true) hb8 ?_
      refine On (want := true) hb8 ?_
      refine On (want := true) hb8 ?_
      refine On (want := true) hb8 ?_
      refine On (want := true) hb8 ?_
      refine On (want := true) hb8 ?_
      refine On (want := true) hb8 ?_
      refine On (want := true) hb8 ?_
      refine On (want := true) hb8 ?_
      refine On (want := true) hb8 ?_
      refine Oy (want := false) hb7 ?_
      refine Pf (.b false) hb8 ?_
      refine Pf (.b false) hb7 ?_
      refine Ni ?_
      exact w_goto false (.k (.k (.k (.k (.k .nil))))) ⟨(hS.keep [] rfl).up (by omega), hM⟩
  ·replace hM := ifF hM hb2
   refine Cf hb2 ?_
   refine r_exit ?_
   refine r_then_exit ?_
   refine w_round_exit ?_
   refine r_blk_exit ?_
   exact w_goto () .nil ⟨(hS.keep [] rfl).up (by omega), hM⟩
theorem W_ref01_Check {n : Nat} {a0 : Wheel} {r : Int} (hM : ref01_Check n a0 = some r) : PureSat Try.prog 39 [.agg (Wheel.cells a0)] (.i r) := by
 refine pure_of_wp mixed Try.func39 rfl (by decide) Try.ntmps39 (by simp) ?pure fun H0 g hf => ?_
 case pure => exact .v _
 rw [frame0_of]
 change wpA _ _ _ _ (Fr.of [(0, .agg (Wheel.cells a0))]) H0 g
 have hS := St.start hf
 refine Sq ?_
 refine Rg 2 ?_
 refine o_box (v := .agg (Wheel.cells a0)) (cs := (Wheel.cells a0)) hS (by decide) rfl rfl (by omega) fun H hS => ?_
 refine Oa (.i 0) ?_
 refine Ni ?_
 refine w_iceE (L' := []) 0 1 hS rfl rfl rfl fun H hS => ?_
 refine Ws ?_
 refine Sq ?_
 refine w_join (J := Bool) (fun j => [(32, .b j)]) (fun j H' g' => St (· < g) H0 [] H' g' ∧ ref01_Check_j1 j = some r) ?_ ?_
 ·rintro v1 H g1 ⟨hS, hM⟩
  change wpA _ _ _ _ (Fr.of [(32, .b v1)]) _ _
  replace hS : St (· < g) H0 [] H g1 := hS
  replace hM : ref01_Check_j1 v1 = some r := hM
  rcases bft v1 with hb2 | hb2
  ·replace hM := ifT hM hb2
   refine Ct hb2 ?_
   refine Sq ?_
   refine Rg 1 ?_
   refine Oa (.i 10) ?_
   refine Ni ?_
   refine Ws ?_
   refine r_ret ?_
   refine r_then_ret ?_
   refine w_end (x := .i 10) (f := fun r => .i r) (.inr rfl) ?_ (.refl _) (Option.some.inj hM) hS
   exact (res_one (res_tmp (x := .i 10) rfl))
  ·replace hM := ifF hM hb2
   refine Cf hb2 ?_
   refine r_skip ?_
   refine Ws ?_
   refine Sq ?_
   refine Rg 1 ?_
   refine Oa (.i 0) ?_
   refine Ni ?_
   refine Ws ?_
   refine r_ret ?_
   refine w_end (x := .i 0) (f := fun r => .i r) (.inr rfl) ?_ (.refl _) (Option.some.inj hM) hS
   exact (res_one (res_tmp (x := .i 0) rfl))
 ·refine Rg 30 ?_
  refine Of ((Wheel.cells a0)) ty_fo24_0 ?_
  refine Olp (.i a0.Round) ty_agg3 ty_sc3 ?_
  obtain ⟨r3, hr3, hM⟩ := bindE hM
  refine o_call (bs := [.i a0.Round, .i 1, .i 200]) (by decide) rfl rfl ((W_ref01_Within hr3).le (.k (.k (.k .nil)))) ?_
  refine o_not (e := r3) (by decide) rfl ?_
  refine Om (.b (!r3)) ?_
  rcases bft (!r3) with hb4 | hb4
  ·replace hM := ifT hM hb4
   refine On (want := false) hb4 ?_
   refine On (want := false) hb4 ?_
   refine On (want := false) hb4 ?_
   refine On (want := false) hb4 ?_
   refine Pt (.b true) hb4 ?_
   refine Om (.b true) ?_
   refine Og ?_
   refine Og ?_
   refine Og ?_
   refine Og ?_
   refine Og ?_
   refine Og ?_
   refine o_pickT (v := .b true) (e := true) (by decide) rfl rfl rfl ?_
   refine Om (.b true) ?_
   refine Og ?_
   refine Og ?_
   refine Og ?_
   refine Og ?_
   refine o_pickT (v := .b true) (e := true) (by decide) rfl rfl rfl ?_
   refine Om (.b true) ?_
   refine Og ?_
   refine Og ?_
   refine Og ?_
   refine Og ?_
   refine o_pickT (v := .b true) (e := true) (by decide) rfl rfl rfl ?_
   refine Ni ?_
   exact w_goto true (.k .nil) ⟨(hS.keep [] rfl).up (by omega), hM⟩
  ·replace hM := ifF hM hb4
   refine Oy (want := false) hb4 ?_
   refine Of ((Wheel.cells a0)) ty_fo24_1 ?_
   refine Oy (want := false) hb4 ?_
   refine Olp (.sl .no 1 (a0.Notches.map cI)) ty_agg22 ty_sc22 ?_
   refine Oy (want := false) hb4 ?_
   refine o_len (n := a0.Notches.length) (by decide) rfl (List.length_map _) ty_isl22 ?_
   refine Oy (want := false) hb4 ?_
   refine Oi (.b (decide ((a0.Notches.length : Int) > 12))) ?_
   refine Pf (.b (decide ((a0.Notches.length : Int) > 12))) hb4 ?_
   refine Om (.b (decide ((a0.Notches.length : Int) > 12))) ?_
   rcases bft (decide ((a0.Notches.length : Int) > 12)) with hb5 | hb5
   ·replace hM := ifT hM hb5
    refine On (want := false) hb5 ?_
    refine On (want := false) hb5 ?_
    refine On (want := false) hb5 ?_
    refine On (want := false) hb5 ?_
    refine On (want := false) hb5 ?_
    refine On (want := false) hb5 ?_
    refine Pt (.b true) hb5 ?_
    refine Om (.b true) ?_
    refine Og ?_
    refine Og ?_
    refine Og ?_
    refine Og ?_
    refine o_pickT (v := .b true) (e := true) (by decide) rfl rfl rfl ?_
    refine Om (.b true) ?_
    refine Og ?_
    refine Og ?_
    refine Og ?_
    refine Og ?_
    refine o_pickT (v := .b true) (e := true) (by decide) rfl rfl rfl ?_
    refine Ni ?_
    exact w_goto true (.k .nil) ⟨(hS.keep [] rfl).up (by omega), hM⟩
   ·replace hM := ifF hM hb5
    refine Oy (want := false) hb5 ?_
    refine Of ((Wheel.cells a0)) ty_fo24_1 ?_
    refine Oy (want := false) hb5 ?_
    refine Olp (.sl .no 1 (a0.Notches.map cI)) ty_agg22 ty_sc22 ?_
    refine Oy (want := false) hb5 ?_
    refine Of ((Wheel.cells a0)) ty_fo24_0 ?_
    refine Oy (want := false) hb5 ?_
    refine Olp (.i a0.Round) ty_agg3 ty_sc3 ?_
    refine Oy (want := false) hb5 ?_
    obtain ⟨r6, hr6, hM⟩ := bindE hM
    refine o_call (bs := [.sl .no 1 (a0.Notches.map cI), .i 1, .i a0.Round]) (by decide) rfl rfl ((W_ref01_Rising hr6).le (.k (.k (.k .nil)))) ?_
    refine Oy (want := false) hb5 ?_
    refine o_not (e := r6) (by decide) rfl ?_
    refine Pf (.b (!r6)) hb5 ?_
    refine Om (.b (!r6)) ?_
    rcases bft (!r6) with hb7 | hb7
    ·replace hM := ifT hM hb7
     refine On (want := false) hb7 ?_
     refine On (want := false) hb7 ?_
     refine On (want := false) hb7 ?_
     refine On (want := false) hb7 ?_
     refine Pt (.b true) hb7 ?_
     refine Om (.b true) ?_
     refine Og ?_
     refine Og ?_
     refine Og ?_
     refine Og ?_
     refine o_pickT (v := .b true) (e := true) (by decide) rfl rfl rfl ?_
     refine Ni ?_
     exact w_goto true (.k .nil) ⟨(hS.keep [] rfl).up (by omega), hM⟩
    ·replace hM := ifF hM hb7
     refine Oy (want := false) hb7 ?_
     refine Of ((Wheel.cells a0)) ty_fo24_2 ?_
     refine Oy (want := false) hb7 ?_
     refine Olp (.sl .no 1 (a0.Coins.map cI)) ty_agg22 ty_sc22 ?_
     refine Oy (want := false) hb7 ?_
     refine o_len (n := a0.Coins.length) (by decide) rfl (List.length_map _) ty_isl22 ?_
     refine Oy (want := false) hb7 ?_
     refine Oi (.b (decide ((a0.Coins.length : Int) > 4))) ?_
     refine Pf (.b (decide ((a0.Coins.length : Int) > 4))) hb7 ?_
     refine Om (.b (decide ((a0.Coins.length : Int) > 4))) ?_
     rcases bft (decide ((a0.Coins.length : Int) > 4)) with hb8 | hb8
     ·replace hM := ifT hM hb8
      refine On (want := false) hb8 ?_
      refine On (want := false) hb8 ?_
      refine On (want := false) hb8 ?_
      refine On (want := false) hb8 ?_
      refine Pt (.b true) hb8 ?_
      refine Ni ?_
      exact w_goto true (.k .nil) ⟨(hS.keep [] rfl).up (by omega), hM⟩
     ·replace hM := ifF hM hb8
      refine Oy (want := false) hb8 ?_
      refine Of ((Wheel.cells a0)) ty_fo24_2 ?_
      refine Oy (want := false) hb8 ?_
      refine Olp (.sl .no 1 (a0.Coins.map cI)) ty_agg22 ty_sc22 ?_
      refine Oy (want := false) hb8 ?_
      obtain ⟨r9, hr9, hM⟩ := bindE hM
      refine o_call (bs := [.sl .no 1 (a0.Coins.map cI), .i 1, .i 100]) (by decide) rfl rfl ((W_ref01_Rising hr9).le (.k (.k (.k .nil)))) ?_
      refine Oy (want := false) hb8 ?_
      refine o_not (e := r9) (by decide) rfl ?_
      refine Pf (.b (!r9)) hb8 ?_
      refine Ni ?_
      exact w_goto (!r9) (.k .nil) ⟨(hS.keep [] rfl).up (by omega), hM⟩
theorem W_law01_isWheel {n : Nat} {a0 : Wheel} {r : Bool} (hM : law01_isWheel n a0 = some r) : PureSat Try.prog 22 [.agg (Wheel.cells a0)] (.b r) := by
 refine pure_of_wp mixed Try.func22 rfl (by decide) Try.ntmps22 (by simp) ?pure fun H0 g hf => ?_
 case pure => exact .v _
 rw [frame0_of]
 change wpA _ _ _ _ (Fr.of [(0, .agg (Wheel.cells a0))]) H0 g
 have hS := St.start hf
 refine Sq ?_
 refine Rg 2 ?_
 refine o_box (v := .agg (Wheel.cells a0)) (cs := (Wheel.cells a0)) hS (by decide) rfl rfl (by omega) fun H hS => ?_
 refine Oa (.b false) ?_
 refine Ni ?_
 refine w_iceE (L' := []) 0 1 hS rfl rfl rfl fun H hS => ?_
 refine Ws ?_
 refine w_join (J := Bool) (fun j => [(2, .b j)]) (fun j H' g' => St (· < g) H0 [] H' g' ∧ law01_isWheel_j1 j = some r) ?_ ?_
 ·rintro v1 H g1 ⟨hS, hM⟩
  change wpA _ _ _ _ (Fr.of [(2, .b v1)]) _ _
  replace hS : St (· < g) H0 [] H g1 := hS
  replace hM : law01_isWheel_j1 v1 = some r := hM
  refine r_ret ?_
  refine w_end (x := .b v1) (f := fun r => .b r) (.inr rfl) ?_ (.refl _) (Option.some.inj hM) hS
  exact (res_one (res_tmp (x := .b v1) rfl))
 ·refine Rg 9 ?_
  refine Olg (.agg (Wheel.cells a0)) ty_agg24 ?_
  obtain ⟨r2, hr2, hM⟩ := bindE hM
  refine o_call (bs := [.agg (Wheel.cells a0)]) (by decide) rfl rfl ((W_law01_far hr2).le (.k .nil)) ?_
  refine o_not (e := r2) (by decide) rfl ?_
  refine Om (.b (!r2)) ?_
  rcases bft (!r2) with hb3 | hb3
  ·replace hM := ifT hM hb3
   refine Oy (want := true) hb3 ?_
   refine Olg (.agg (Wheel.cells a0)) ty_agg24 ?_
   refine Oy (want := true) hb3 ?_
   obtain ⟨r4, hr4, hM⟩ := bindE hM
   refine o_call (bs := [.agg (Wheel.cells a0)]) (by decide) rfl rfl ((W_ref01_Check hr4).le (.k .nil)) ?_
   refine Oy (want := true) hb3 ?_
   refine Oi (.b (r4 == 0)) ?_
   refine Pt (.b (r4 == 0)) hb3 ?_
   refine Oa (.b (r4 == 0)) ?_
   refine Ni ?_
   exact w_goto (r4 == 0) (.k .nil) ⟨(hS.keep [] rfl).up (by omega), hM⟩
  ·replace hM := ifF hM hb3
   refine On (want := true) hb3 ?_
   refine On (want := true) hb3 ?_
   refine On (want := true) hb3 ?_
   refine Pf (.b false) hb3 ?_
   refine Oa (.b false) ?_
   refine Ni ?_
   exact w_goto false (.k .nil) ⟨(hS.keep [] rfl).up (by omega), hM⟩
theorem W_ref01_IsPurse {n : Nat} {a0 : Wheel} {a1 : List Int} {r : Bool} (hM : ref01_IsPurse n a0 a1 = some r) : PureSat Try.prog 23 [.agg (Wheel.cells a0), .sl .no 1 (a1.map cI)] (.b r) := by
 refine pure_of_wp mixed Try.func23 rfl (by decide) Try.ntmps23 (by simp) ?pure fun H0 g hf => ?_
 case pure => exact .v _
 rw [frame0_of]
 change wpA _ _ _ _ (Fr.of [(0, .agg (Wheel.cells a0)), (1, .sl .no 1 (a1.map cI))]) H0 g
 have hS := St.start hf
 refine Sq ?_
 refine Rg 2 ?_
 refine o_box (v := .agg (Wheel.cells a0)) (cs := (Wheel.cells a0)) hS (by decide) rfl rfl (by omega) fun H hS => ?_
 refine Oa (.b false) ?_
 refine Ni ?_
 refine w_iceE (L' := []) 0 2 hS rfl rfl rfl fun H hS => ?_
 refine Ws ?_
 refine Sq ?_
 refine Sq ?_
 refine Rg 6 ?_
 refine Om (.sl .no 1 (a1.map cI)) ?_
 refine o_len (n := a1.length) (by decide) rfl (List.length_map _) ty_isl22 ?_
 refine Of ((Wheel.cells a0)) ty_fo24_2 ?_
 refine Olp (.sl .no 1 (a0.Coins.map cI)) ty_agg22 ty_sc22 ?_
 refine o_len (n := a0.Coins.length) (by decide) rfl (List.length_map _) ty_isl22 ?_
 refine Oi (.b ((a1.length : Int) != (a0.Coins.length : Int))) ?_
 refine Ni ?_
 refine Ws ?_
 rcases bft ((a1.length : Int) != (a0.Coins.length : Int)) with hb1 | hb1
 ·replace hM := ifT hM hb1
  refine Ct hb1 ?_
  refine Sq ?_
  refine Rg 1 ?_
  refine Oa (.b false) ?_
  refine Ni ?_
  refine Ws ?_
  refine r_ret ?_
  refine r_then_ret ?_
  refine w_end (x := .b false) (f := fun r => .b r) (.inr rfl) ?_ (.refl _) (Option.some.inj hM) hS
  exact (res_one (res_tmp (x := .b false) rfl))
 ·replace hM := ifF hM hb1
  refine Cf hb1 ?_
  refine r_skip ?_
  refine Ws ?_
  refine Sq ?_
  refine Rg 1 ?_
  refine Oa (.i 0) ?_
  refine Ni ?_
  refine Ws ?_
  refine w_join (J := Int) (fun j => [(5, .i j)]) (fun j H' g' => St (· < g) H0 [] H' g' ∧ ref01_IsPurse_j1 j = some r) ?_ ?_
  ·rintro v2 H g1 ⟨hS, hM⟩
   change wpA _ _ _ _ (Fr.of [(5, .i v2)]) _ _
   replace hS : St (· < g) H0 [] H g1 := hS
   replace hM : ref01_IsPurse_j1 v2 = some r := hM
   refine Sq ?_
   refine Rg 3 ?_
   refine Om (.i v2) ?_
   refine Oi (.b (decide (v2 ≤ 12))) ?_
   refine Oa (.b (decide (v2 ≤ 12))) ?_
   refine Ni ?_
   refine Ws ?_
   refine r_ret ?_
   refine w_end (x := .b (decide (v2 ≤ 12))) (f := fun r => .b r) (.inr rfl) ?_ (.refl _) (Option.some.inj hM) hS
   exact (res_one (res_tmp (x := .b (decide (v2 ≤ 12))) rfl))
  ·refine Sq ?_
   refine Rg 1 ?_
   refine Oa (.i 0) ?_
   refine Ni ?_
   refine Ws ?_
   refine r_block ?_
   refine w_loop (V := Int × Int) (fun v => [(1, .sl .no 1 (a1.map cI)), (5, .i v.1), (6, .i v.2)]) (fun v m2 H' g' => St (· < g) H0 [] H' g' ∧ ref01_IsPurse_l1 a1 m2 v.1 v.2 = some r) (n := n) (0, 0) (.k (.k (.k .nil))) ⟨(hS.keep [] rfl).up (by omega), hM⟩ ?_
   rintro ⟨v3, v4⟩ m2 H g2 ⟨hS, hM⟩
   obtain _ | m2 := m2
   ·exact nomatch (show none = some _ from hM)
   change wpA _ _ _ _ (Fr.of [(1, .sl .no 1 (a1.map cI)), (5, .i v3), (6, .i v4)]) _ _
   replace hS : St (· < g) H0 [] H g2 := hS
   replace hM : ref01_IsPurse_l1_b a1 (ref01_IsPurse_l1 a1 m2) v3 v4 = some r := hM
   refine Sq ?_
   refine Sq ?_
   refine Rg 4 ?_
   refine Om (.i v4) ?_
   refine Om (.sl .no 1 (a1.map cI)) ?_
   refine o_len (n := a1.length) (by decide) rfl (List.length_map _) ty_isl22 ?_
   refine Oi (.b (decide (v4 < (a1.length : Int)))) ?_
   refine Ni ?_
   refine Ws ?_
   rcases bft (decide (v4 < (a1.length : Int))) with hb5 | hb5
   ·replace hM := ifT hM hb5
    refine Ct hb5 ?_
    refine r_skip ?_
    refine Ws ?_
    refine Sq ?_
    refine r_block ?_
    refine Sq ?_
    refine Sq ?_
    refine Rg 6 ?_
    refine Om (.sl .no 1 (a1.map cI)) ?_
    refine Om (.i v4) ?_
    obtain ⟨x6, hx6, hM⟩ := bindE hM
    refine o_index (xs := a1) (f := cI) (z := v4) (u := x6) (by decide) rfl rfl ty_es22 hx6 ?_
    refine Olp (.i x6) ty_agg3 ty_sc3 ?_
    obtain ⟨r7, hr7, hM⟩ := bindE hM
    refine o_call (bs := [.i x6, .i 0, .i 12]) (by decide) rfl rfl ((W_ref01_Within hr7).le (.k (.k (.k .nil)))) ?_
    refine o_not (e := r7) (by decide) rfl ?_
    refine Ni ?_
    refine Ws ?_
    rcases bft (!r7) with hb8 | hb8
    ·replace hM := ifT hM hb8
     refine Ct hb8 ?_
     refine Sq ?_
     refine Rg 1 ?_
     refine Oa (.b false) ?_
     refine Ni ?_
     refine Ws ?_
     refine r_ret ?_
     refine r_then_ret ?_
     refine r_blk_ret ?_
     refine r_then_ret ?_
     refine w_round_ret ?_
     refine r_blk_ret ?_
     refine w_goto_ret ?_
     refine w_end (x := .b false) (f := fun r => .b r) (.inr rfl) ?_ (.refl _) (Option.some.inj hM) hS
     exact (res_one (res_tmp (x := .b false) rfl))
    ·replace hM := ifF hM hb8
     refine Cf hb8 ?_
     refine r_skip ?_
     refine Ws ?_
     refine Rg 7 ?_
     refine Om (.i v3) ?_
     refine Om (.sl .no 1 (a1.map cI)) ?_
     refine Om (.i v4) ?_
     obtain ⟨x9, hx9, hM⟩ := bindE hM
     refine o_index (xs := a1) (f := cI) (z := v4) (u := x9) (by decide) rfl rfl ty_es22 hx9 ?_
     refine Olp (.i x9) ty_agg3 ty_sc3 ?_
     refine Oi (.i (w64 (v3 + x9))) ?_
     refine Oa (.i (w64 (v3 + x9))) ?_
     refine Ni ?_
     refine r_blk_normal ?_
     refine Ws ?_
     refine Rg 3 ?_
     refine Om (.i v4) ?_
     refine Oi (.i (w64 (v4 + 1))) ?_
     refine Oa (.i (w64 (v4 + 1))) ?_
     refine Ni ?_
     exact w_round (w64 (v3 + x9), w64 (v4 + 1)) (Nat.lt_succ_self _) (.k (.k (.k .nil))) ⟨(hS.keep [] rfl).up (by omega), hM⟩
   ·replace hM := ifF hM hb5
    refine Cf hb5 ?_
    refine r_exit ?_
    refine r_then_exit ?_
    refine w_round_exit ?_
    refine r_blk_exit ?_
    exact w_goto v3 (.k .nil) ⟨(hS.keep [] rfl).up (by omega), hM⟩
theorem W_law01_rich {n : Nat} {a0 : Wheel} {a1 : List Int} {r : Bool} (hM : law01_rich n a0 a1 = some r) : PureSat Try.prog 24 [.agg (Wheel.cells a0), .sl .no 1 (a1.map cI)] (.b r) := by
 refine pure_of_wp mixed Try.func24 rfl (by decide) Try.ntmps24 (by simp) ?pure fun H0 g hf => ?_
 case pure => exact .v _
 rw [frame0_of]
 change wpA _ _ _ _ (Fr.of [(0, .agg (Wheel.cells a0)), (1, .sl .no 1 (a1.map cI))]) H0 g
 have hS := St.start hf
 refine Sq ?_
 refine Rg 2 ?_
 refine o_box (v := .agg (Wheel.cells a0)) (cs := (Wheel.cells a0)) hS (by decide) rfl rfl (by omega) fun H hS => ?_
 refine Oa (.b false) ?_
 refine Ni ?_
 refine w_iceE (L' := []) 0 2 hS rfl rfl rfl fun H hS => ?_
 refine Ws ?_
 refine Sq ?_
 refine Sq ?_
 refine Rg 3 ?_
 refine Om (.sl .no 1 (a1.map cI)) ?_
 refine o_len (n := a1.length) (by decide) rfl (List.length_map _) ty_isl22 ?_
 refine Oi (.b (decide ((a1.length : Int) > 40))) ?_
 refine Ni ?_
 refine Ws ?_
 rcases bft (decide ((a1.length : Int) > 40)) with hb1 | hb1
 ·replace hM := ifT hM hb1
  refine Ct hb1 ?_
  refine Sq ?_
  refine Rg 1 ?_
  refine Oa (.b true) ?_
  refine Ni ?_
  refine Ws ?_
  refine r_ret ?_
  refine r_then_ret ?_
  refine w_end (x := .b true) (f := fun r => .b r) (.inr rfl) ?_ (.refl _) (Option.some.inj hM) hS
  exact (res_one (res_tmp (x := .b true) rfl))
 ·replace hM := ifF hM hb1
  refine Cf hb1 ?_
  refine r_skip ?_
  refine Ws ?_
  refine Sq ?_
  refine w_join (J := Bool) (fun j => [(1, .sl .no 1 (a1.map cI)), (18, .b j)]) (fun j H' g' => St (· < g) H0 [] H' g' ∧ law01_rich_j1 n a1 j = some r) ?_ ?_
  ·rintro v2 H g1 ⟨hS, hM⟩
   change wpA _ _ _ _ (Fr.of [(1, .sl .no 1 (a1.map cI)), (18, .b v2)]) _ _
   replace hS : St (· < g) H0 [] H g1 := hS
   replace hM : law01_rich_j1 n a1 v2 = some r := hM
   rcases bft v2 with hb3 | hb3
   ·replace hM := ifT hM hb3
    refine Ct hb3 ?_
    refine Sq ?_
    refine Rg 1 ?_
    refine Oa (.b false) ?_
    refine Ni ?_
    refine Ws ?_
    refine r_ret ?_
    refine r_then_ret ?_
    refine w_end (x := .b false) (f := fun r => .b r) (.inr rfl) ?_ (.refl _) (Option.some.inj hM) hS
    exact (res_one (res_tmp (x := .b false) rfl))
   ·replace hM := ifF hM hb3
    refine Cf hb3 ?_
    refine r_skip ?_
    refine Ws ?_
    refine Sq ?_
    refine Rg 1 ?_
    refine Oa (.i 0) ?_
    refine Ni ?_
    refine Ws ?_
    refine w_join (J := Int) (fun j => [(5, .i j)]) (fun j H' g' => St (· < g) H0 [] H' g' ∧ law01_rich_j2 j = some r) ?_ ?_
    ·rintro v4 H g2 ⟨hS, hM⟩
     change wpA _ _ _ _ (Fr.of [(5, .i v4)]) _ _
     replace hS : St (· < g) H0 [] H g2 := hS
     replace hM : law01_rich_j2 v4 = some r := hM
     refine Sq ?_
     refine Rg 3 ?_
     refine Om (.i v4) ?_
     refine Oi (.b (decide (v4 > 6))) ?_
     refine Oa (.b (decide (v4 > 6))) ?_
     refine Ni ?_
     refine Ws ?_
     refine r_ret ?_
     refine w_end (x := .b (decide (v4 > 6))) (f := fun r => .b r) (.inr rfl) ?_ (.refl _) (Option.some.inj hM) hS
     exact (res_one (res_tmp (x := .b (decide (v4 > 6))) rfl))
    ·refine Sq ?_
     refine Rg 1 ?_
     refine Oa (.i 0) ?_
     refine Ni ?_
     refine Ws ?_
     refine r_block ?_
     refine w_loop (V := Int × Int) (fun v => [(1, .sl .no 1 (a1.map cI)), (5, .i v.1), (6, .i v.2)]) (fun v m3 H' g' => St (· < g) H0 [] H' g' ∧ law01_rich_l1 a1 m3 v.1 v.2 = some r) (n := n) (0, 0) (.k (.k (.k .nil))) ⟨(hS.keep [] rfl).up (by omega), hM⟩ ?_
     rintro ⟨v5, v6⟩ m3 H g3 ⟨hS, hM⟩
     obtain _ | m3 := m3
     ·exact nomatch (show none = some _ from hM)
     change wpA _ _ _ _ (Fr.of [(1, .sl .no 1 (a1.map cI)), (5, .i v5), (6, .i v6)]) _ _
     replace hS : St (· < g) H0 [] H g3 := hS
     replace hM : law01_rich_l1_b a1 (law01_rich_l1 a1 m3) v5 v6 = some r := hM
     refine Sq ?_
     refine Sq ?_
     refine Rg 4 ?_
     refine Om (.i v6) ?_
     refine Om (.sl .no 1 (a1.map cI)) ?_
     refine o_len (n := a1.length) (by decide) rfl (List.length_map _) ty_isl22 ?_
     refine Oi (.b (decide (v6 < (a1.length : Int)))) ?_
     refine Ni ?_
     refine Ws ?_
     rcases bft (decide (v6 < (a1.length : Int))) with hb7 | hb7
     ·replace hM := ifT hM hb7
      refine Ct hb7 ?_
      refine r_skip ?_
      refine Ws ?_
      refine Sq ?_
      refine r_block ?_
      refine Rg 7 ?_
      refine Om (.i v5) ?_
      refine Om (.sl .no 1 (a1.map cI)) ?_
      refine Om (.i v6) ?_
      obtain ⟨x8, hx8, hM⟩ := bindE hM
      refine o_index (xs := a1) (f := cI) (z := v6) (u := x8) (by decide) rfl rfl ty_es22 hx8 ?_
      refine Olp (.i x8) ty_agg3 ty_sc3 ?_
      refine Oi (.i (w64 (v5 + x8))) ?_
      refine Oa (.i (w64 (v5 + x8))) ?_
      refine Ni ?_
      refine r_blk_normal ?_
      refine Ws ?_
      refine Rg 3 ?_
      refine Om (.i v6) ?_
      refine Oi (.i (w64 (v6 + 1))) ?_
      refine Oa (.i (w64 (v6 + 1))) ?_
      refine Ni ?_
      exact w_round (w64 (v5 + x8), w64 (v6 + 1)) (Nat.lt_succ_self _) (.k (.k (.k .nil))) ⟨(hS.keep [] rfl).up (by omega), hM⟩
     ·replace hM := ifF hM hb7
      refine Cf hb7 ?_
      refine r_exit ?_
      refine r_then_exit ?_
      refine w_round_exit ?_
      refine r_blk_exit ?_
      exact w_goto v5 (.k .nil) ⟨(hS.keep [] rfl).up (by omega), hM⟩
  ·refine Rg 9 ?_
   refine Olg (.agg (Wheel.cells a0)) ty_agg24 ?_
   obtain ⟨r9, hr9, hM⟩ := bindE hM
   refine o_call (bs := [.agg (Wheel.cells a0)]) (by decide) rfl rfl ((W_ref01_Check hr9).le (.k .nil)) ?_
   refine Oi (.b (r9 != 0)) ?_
   refine Om (.b (r9 != 0)) ?_
   rcases bft (r9 != 0) with hb10 | hb10
   ·replace hM := ifT hM hb10
    refine On (want := false) hb10 ?_
    refine On (want := false) hb10 ?_
    refine On (want := false) hb10 ?_
    refine On (want := false) hb10 ?_
    refine Pt (.b true) hb10 ?_
    refine Ni ?_
    exact w_goto true (.k (.k .nil)) ⟨(hS.keep [] rfl).up (by omega), hM⟩
   ·replace hM := ifF hM hb10
    refine Oy (want := false) hb10 ?_
    refine Olg (.agg (Wheel.cells a0)) ty_agg24 ?_
    refine Oy (want := false) hb10 ?_
    refine Om (.sl .no 1 (a1.map cI)) ?_
    refine Oy (want := false) hb10 ?_
    obtain ⟨r11, hr11, hM⟩ := bindE hM
    refine o_call (bs := [.agg (Wheel.cells a0), .sl .no 1 (a1.map cI)]) (by decide) rfl rfl ((W_ref01_IsPurse hr11).le (.k (.k .nil))) ?_
    refine Oy (want := false) hb10 ?_
    refine o_not (e := r11) (by decide) rfl ?_
    refine Pf (.b (!r11)) hb10 ?_
    refine Ni ?_
    exact w_goto (!r11) (.k (.k .nil)) ⟨(hS.keep [] rfl).up (by omega), hM⟩
theorem W_law01_joined {a0 : List Int} {a1 : List Int} {r : (List Int)} (hM : law01_joined a0 a1 = some r) : PureSat Try.prog 26 [.sl .no 1 (a0.map cI), .sl .no 1 (a1.map cI)] (.sl .no 1 (r.map cI)) := by
 refine pure_of_wp mixed Try.func26 rfl (by decide) Try.ntmps26 (by simp) ?pure fun H0 g hf => ?_
 case pure => exact .sl _ _ (pures_map (fun x => (pl_cons (.v _) pl_nil)))
 rw [frame0_of]
 change wpA _ _ _ _ (Fr.of [(0, .sl .no 1 (a0.map cI)), (1, .sl .no 1 (a1.map cI))]) H0 g
 have hS := St.start hf
 refine Sq ?_
 refine Rg 1 ?_
 refine Oa (.sl .nil 0 []) ?_
 refine Ni ?_
 refine Ws ?_
 refine Sq ?_
 refine Rg 6 ?_
 refine o_buildSlice (es := []) hS (by decide) ty_es22 ty_el22 rfl ty_ef22 rfl (by decide) (by omega) fun H hS => ?_
 refine Om (.sl .no 1 (a0.map cI)) ?_
 obtain ⟨l1, hl1, hM⟩ := bindE hM
 refine o_append (xs := ([] : List Int)) (ys := a0) (zs := l1) (f := cI) (L' := [(g + 1 + 0, .row 3 l1.length)]) 0 hS (by decide) rfl rfl rfl rfl .no ty_es22 ty_el22 ty_ef22 hl1 rfl fun H hS => ?_
 refine Om (.sl .no 1 (a1.map cI)) ?_
 obtain ⟨l2, hl2, hM⟩ := bindE hM
 refine o_append (xs := l1) (ys := a1) (zs := l2) (f := cI) (L' := [(g + 1 + 0, .row 3 l2.length)]) 0 hS (by decide) rfl rfl rfl rfl .no ty_es22 ty_el22 ty_ef22 hl2 rfl fun H hS => ?_
 refine Oa (.sl (.id (g + 1 + 0)) 1 (l2.map cI)) ?_
 refine Ni ?_
 refine w_next [(4, .sl (.id (g + 1 + 0)) 1 (l2.map cI))] (.k .nil) ?_
 refine r_ret ?_
 refine w_end (x := .sl (.id (g + 1 + 0)) 1 (l2.map cI)) (f := fun r => .sl .no 1 (r.map cI)) (.inr rfl) ?_ (.sl _ _ _) (Option.some.inj hM) hS
 exact (res_one (res_tmp (x := .sl (.id (g + 1 + 0)) 1 (l2.map cI)) rfl))
theorem W_ref01_PurseWorth {n : Nat} {a0 : Wheel} {a1 : List Int} {r : Int} (hM : ref01_PurseWorth n a0 a1 = some r) : PureSat Try.prog 29 [.agg (Wheel.cells a0), .sl .no 1 (a1.map cI)] (.i r) := by
 refine pure_of_wp mixed Try.func29 rfl (by decide) Try.ntmps29 (by simp) ?pure fun H0 g hf => ?_
 case pure => exact .v _
 rw [frame0_of]
 change wpA _ _ _ _ (Fr.of [(0, .agg (Wheel.cells a0)), (1, .sl .no 1 (a1.map cI))]) H0 g
 have hS := St.start hf
 refine Sq ?_
 refine Rg 2 ?_
 refine o_box (v := .agg (Wheel.cells a0)) (cs := (Wheel.cells a0)) hS (by decide) rfl rfl (by omega) fun H hS => ?_
 refine Oa (.i 0) ?_
 refine Ni ?_
 refine w_iceE (L' := []) 0 2 hS rfl rfl rfl fun H hS => ?_
 refine Ws ?_
 refine Sq ?_
 refine Rg 1 ?_
 refine Oa (.i 0) ?_
 refine Ni ?_
 refine Ws ?_
 refine w_join (J := Int) (fun j => [(5, .i j)]) (fun j H' g' => St (· < g) H0 [] H' g' ∧ ref01_PurseWorth_j1 j = some r) ?_ ?_
 ·rintro v1 H g1 ⟨hS, hM⟩
  change wpA _ _ _ _ (Fr.of [(5, .i v1)]) _ _
  replace hS : St (· < g) H0 [] H g1 := hS
  replace hM : ref01_PurseWorth_j1 v1 = some r := hM
  refine Sq ?_
  refine Rg 2 ?_
  refine Om (.i v1) ?_
  refine Oa (.i v1) ?_
  refine Ni ?_
  refine Ws ?_
  refine r_ret ?_
  refine w_end (x := .i v1) (f := fun r => .i r) (.inr rfl) ?_ (.refl _) (Option.some.inj hM) hS
  exact (res_one (res_tmp (x := .i v1) rfl))
 ·refine Sq ?_
  refine Rg 1 ?_
  refine Oa (.i 0) ?_
  refine Ni ?_
  refine Ws ?_
  refine r_block ?_
  refine w_loop (V := Int × Int) (fun v => [(1, .sl .no 1 (a1.map cI)), (2, .ep (Wheel.cells a0)), (5, .i v.1), (6, .i v.2)]) (fun v m2 H' g' => St (· < g) H0 [] H' g' ∧ ref01_PurseWorth_l1 a0 a1 m2 v.1 v.2 = some r) (n := n) (0, 0) (.k (.k (.k (.k .nil)))) ⟨(hS.keep [] rfl).up (by omega), hM⟩ ?_
  rintro ⟨v2, v3⟩ m2 H g2 ⟨hS, hM⟩
  obtain _ | m2 := m2
  ·exact nomatch (show none = some _ from hM)
  change wpA _ _ _ _ (Fr.of [(1, .sl .no 1 (a1.map cI)), (2, .ep (Wheel.cells a0)), (5, .i v2), (6, .i v3)]) _ _
  replace hS : St (· < g) H0 [] H g2 := hS
  replace hM : ref01_PurseWorth_l1_b a0 a1 (ref01_PurseWorth_l1 a0 a1 m2) v2 v3 = some r := hM
  refine Sq ?_
  refine Sq ?_
  refine Rg 4 ?_
  refine Om (.i v3) ?_
  refine Om (.sl .no 1 (a1.map cI)) ?_
  refine o_len (n := a1.length) (by decide) rfl (List.length_map _) ty_isl22 ?_
  refine Oi (.b (decide (v3 < (a1.length : Int)))) ?_
  refine Ni ?_
  refine Ws ?_
  rcases bft (decide (v3 < (a1.length : Int))) with hb4 | hb4
  ·replace hM := ifT hM hb4
   refine Ct hb4 ?_
   refine r_skip ?_
   refine Ws ?_
   refine Sq ?_
   refine r_block ?_
   have hS0 := hS
   refine r_draw (n := 13) rfl (by kernel_rfl) ?_
   refine Om (.i v2) ?_
   refine Om (.sl .no 1 (a1.map cI)) ?_
   refine Om (.i v3) ?_
   obtain ⟨x5, hx5, hM⟩ := bindE hM
   refine o_index (xs := a1) (f := cI) (z := v3) (u := x5) (by decide) rfl rfl ty_es22 hx5 ?_
   refine Olp (.i x5) ty_agg3 ty_sc3 ?_
   refine Of ((Wheel.cells a0)) ty_fo24_2 ?_
   refine Olp (.sl .no 1 (a0.Coins.map cI)) ty_agg22 ty_sc22 ?_
   refine Om (.i v3) ?_
   obtain ⟨x6, hx6, hM⟩ := bindE hM
   refine o_index (xs := a0.Coins) (f := cI) (z := v3) (u := x6) (by decide) rfl rfl ty_es22 hx6 ?_
   refine Olp (.i x6) ty_agg3 ty_sc3 ?_
   refine Oi (.i (w64 (x5 * x6))) ?_
   refine Oi (.i (w64 (v2 + (w64 (x5 * x6))))) ?_
   refine Oa (.i (w64 (v2 + (w64 (x5 * x6))))) ?_
   refine Ni ?_
   refine r_blk_normal ?_
   refine Ws ?_
   refine Rg 3 ?_
   refine Om (.i v3) ?_
   refine Oi (.i (w64 (v3 + 1))) ?_
   refine Oa (.i (w64 (v3 + 1))) ?_
   refine Ni ?_
   exact w_round (w64 (v2 + (w64 (x5 * x6))), w64 (v3 + 1)) (Nat.lt_succ_self _) (.k (.k (.k (.k .nil)))) ⟨(hS.keep [] rfl).up (by omega), hM⟩
  ·replace hM := ifF hM hb4
   refine Cf hb4 ?_
   refine r_exit ?_
   refine r_then_exit ?_
   refine w_round_exit ?_
   refine r_blk_exit ?_
   exact w_goto v2 (.k .nil) ⟨(hS.keep [] rfl).up (by omega), hM⟩
theorem W_coins_parts_b {S : Type} {Lo : S → BL} (hk : ∀ s s', KinL (Lo s) (Lo s')) (hnd : ∀ s, (ids (Lo s)).Nodup) (hin : ∀ s, InB In (Lo s)) {aF : Bag_ → S → Option (Unit × S)} {f0 : AV} (hF : ∀ s H, Has H (Lo s) → In H f0) (h0 : cellsOf f0 = some [f0]) (hf : ∀ {x0 : Bag_} {s : S} {r : Unit × S}, aF x0 s = some r → CSat Try.prog f0 [.agg (Bag_.cells x0)] (Lo s) (.tup []) (Lo r.2)) {n : Nat} {rec : Bag_ → Int → S → Option (Unit × S)} (hrec : ∀ {a0 : Bag_} {a1 : Int} {st : S} {r : Unit × S}, rec a0 a1 st = some r → HSat Try.prog 87 [.agg (Bag_.cells a0), .i a1, f0] (Lo st) (.tup []) (Lo r.2)) {a0 : Bag_} {a1 : Int} {st : S} {r : Unit × S} (hM : coins_parts_b n rec aF a0 a1 st = some r) : HSat Try.prog 87 [.agg (Bag_.cells a0), .i a1, f0] (Lo st) (.tup []) (Lo r.2) := by
 have hnd0 : ∀ s, (ids (Lo s)).Nodup := fun s => hnd s
 refine hsat_of_wp mixed Try.func87 rfl (by decide) Try.ntmps87 (by simp) (hk _ _) (hnd st) ?pure ?cells fun H0 g hf_ hp => ?_
 case pure => exact fun H _ => (show Go.AM.Pure _ from .tup _ pl_nil).inH
 case cells => exact hin _
 rw [frame0_of]
 change wpA _ _ _ _ (Fr.of [(0, .agg (Bag_.cells a0)), (1, .i a1), (2, f0)]) H0 g
 have hS := St.startH (L := ([] ++ Lo st)) hf_ (hnd st) hp
 replace hS : St (fun i => i < g ∧ i ∉ ids (Lo st)) H0 ([] ++ Lo st) H0 g := hS
 refine Sq ?_
 refine Rg 1 ?_
 refine o_box (v := .agg (Bag_.cells a0)) (cs := (Bag_.cells a0)) hS (by decide) rfl rfl (by omega) fun H hS => ?_
 refine Ni ?_
 refine Ws ?_
 refine Sq ?_
 refine Sq ?_
 refine Rg 2 ?_
 refine Om (.i a1) ?_
 refine Oi (.b (a1 == 4)) ?_
 refine Ni ?_
 refine Ws ?_
 rcases bft (a1 == 4) with hb1 | hb1
 ·replace hM := ifT hM hb1
  refine Ct hb1 ?_
  refine Sq ?_
  refine Rg 3 ?_
  refine Om (f0) ?_
  refine o_load (v := .agg (Bag_.cells a0)) 0 hS (by decide) rfl rfl .no (pg ty_agg88) ?_
  obtain ⟨r2, hr2, hM⟩ := bindE hM
  replace hS : St (fun i => i < g ∧ i ∉ ids (Lo st)) H0 ([(g + 0, .cells (Bag_.cells a0))] ++ Lo st) _ _ := hS
  refine o_state (bs := [.agg (Bag_.cells a0)]) (.inl rfl) hS (by decide) rfl rfl ((hf hr2).le (.k .nil)) (hk _ _).ids (by omega) fun H hS => ?_
  refine Ni ?_
  replace hS := hS.keep (L' := ([] ++ Lo r2.2)) [false] rfl
  refine Ws ?_
  refine r_ret ?_
  refine r_then_ret ?_
  refine w_endS (x := .tup []) (f := fun r => .tup []) (fd := fun r => (Lo r.2)) (.inr rfl) ?_ (.refl _) (Option.some.inj hM) hS 0 rfl
  exact rfl
 ·replace hM := ifF hM hb1
  refine Cf hb1 ?_
  refine r_skip ?_
  refine Ws ?_
  refine Sq ?_
  refine Rg 4 ?_
  refine Om (.i a1) ?_
  obtain ⟨x3, hx3, hM⟩ := bindE hM
  refine o_indexP (z := a1) (by decide) rfl rfl ty_arr88 (idx_lt hx3) ?_
  refine o_loadX (xs := ([a0.c0, a0.c1, a0.c2, a0.c3] : List Int)) (z := a1) (u := x3) (off := 0) 0 hS (by decide) rfl rfl .no rfl hx3 ty_agg3 ty_sc3 ?_
  refine Oa (.i x3) ?_
  refine Ni ?_
  refine Ws ?_
  refine r_block ?_
  refine w_loop (V := Int × Int × Int × Int × Int × S) (fun v => [(1, .i a1), (2, f0), (3, .ptr (g + 0) 0), (6, .i v.1)]) (fun v m2 H' g' => St (fun i => i < g ∧ i ∉ ids (Lo st)) H0 ([(g + 0, .cells [.i v.2.1, .i v.2.2.1, .i v.2.2.2.1, .i v.2.2.2.2.1])] ++ Lo v.2.2.2.2.2) H' g' ∧ coins_parts_l1 rec a1 m2 v.1 v.2.1 v.2.2.1 v.2.2.2.1 v.2.2.2.2.1 v.2.2.2.2.2 = some r) (n := n) (x3, a0.c0, a0.c1, a0.c2, a0.c3, st) (.k (.k (.k (.k .nil)))) ⟨(hS.keep [true] rfl).up (by omega), hM⟩ ?_
  rintro ⟨v5, v6, v7, v8, v9, v10⟩ m2 H g2 ⟨hS, hM⟩
  obtain _ | m2 := m2
  ·exact nomatch (show none = some _ from hM)
  change wpA _ _ _ _ (Fr.of [(1, .i a1), (2, f0), (3, .ptr (g + 0) 0), (6, .i v5)]) _ _
  replace hS : St (fun i => i < g ∧ i ∉ ids (Lo st)) H0 ([(g + 0, .cells [.i v6, .i v7, .i v8, .i v9])] ++ Lo v10) H g2 := hS
  replace hM : coins_parts_l1_b rec a1 (coins_parts_l1 rec a1 m2) v5 v6 v7 v8 v9 v10 = some r := hM
  refine Sq ?_
  refine Sq ?_
  refine Rg 2 ?_
  refine Om (.i v5) ?_
  refine Oi (.b (decide (v5 ≥ 0))) ?_
  refine Ni ?_
  refine Ws ?_
  rcases bft (decide (v5 ≥ 0)) with hb11 | hb11
  ·replace hM := ifT hM hb11
   refine Ct hb11 ?_
   refine r_skip ?_
   refine Ws ?_
   refine Sq ?_
   refine r_block ?_
   refine Sq ?_
   refine Rg 4 ?_
   refine Om (.i a1) ?_
   refine Om (.i v5) ?_
   obtain ⟨x12, hx12, hM⟩ := bindE hM
   refine o_indexP (z := a1) (by decide) rfl rfl ty_arr88 (idx_lt hx12) ?_
   obtain ⟨l13, hl13, hM⟩ := bindE hM
   refine o_storeX (xs := ([v6, v7, v8, v9] : List Int)) (u := l13) (z := a1) (v := v5) (off := 0) (cs' := [.i (l13.getD 0 0), .i (l13.getD 1 0), .i (l13.getD 2 0), .i (l13.getD 3 0)]) (L' := ([(g + 0, .cells [.i (l13.getD 0 0), .i (l13.getD 1 0), .i (l13.getD 2 0), .i (l13.getD 3 0)])] ++ Lo v10)) 0 hS rfl rfl .no rfl rfl hl13 ty_var3 rfl rfl fun H hS => ?_
   refine Ni ?_
   refine Ws ?_
   refine Rg 5 ?_
   refine o_load (v := .agg [.i (l13.getD 0 0), .i (l13.getD 1 0), .i (l13.getD 2 0), .i (l13.getD 3 0)]) 0 hS (by decide) rfl rfl .no (pg ty_agg88) ?_
   refine Om (.i a1) ?_
   refine Oi (.i (w64 (a1 + 1))) ?_
   refine Om (f0) ?_
   obtain ⟨r14, hr14, hM⟩ := bindE hM
   replace hS : St (fun i => i < g ∧ i ∉ ids (Lo st)) H0 ([(g + 0, .cells [.i (l13.getD 0 0), .i (l13.getD 1 0), .i (l13.getD 2 0), .i (l13.getD 3 0)])] ++ Lo v10) _ _ := hS
   refine o_stateH (bs := [.agg [.i (l13.getD 0 0), .i (l13.getD 1 0), .i (l13.getD 2 0), .i (l13.getD 3 0)], .i (w64 (a1 + 1)), f0]) (.inl rfl) hS (by decide) rfl rfl ((hrec hr14).le (.k (.k (.k .nil)))) (hk _ _).ids (by omega) fun H hS => ?_
   refine Ni ?_
   refine r_blk_normal ?_
   refine Ws ?_
   refine Rg 3 ?_
   refine Om (.i v5) ?_
   refine Oi (.i (w64 (v5 - 1))) ?_
   refine Oa (.i (w64 (v5 - 1))) ?_
   refine Ni ?_
   exact w_round (w64 (v5 - 1), (l13.getD 0 0), (l13.getD 1 0), (l13.getD 2 0), (l13.getD 3 0), r14.2) (Nat.lt_succ_self _) (.k (.k (.k (.k .nil)))) ⟨(hS.keep [true] rfl).up (by omega), hM⟩
  ·replace hM := ifF hM hb11
   refine Cf hb11 ?_
   refine r_exit ?_
   refine r_then_exit ?_
   refine w_round_exit ?_
   refine r_blk_exit ?_
   refine w_endS (x := .tup []) (f := fun r => .tup []) (fd := fun r => (Lo r.2)) (.inl rfl) ?_ (.refl _) (Option.some.inj hM) hS 1 rfl
   exact rfl
theorem W_coins_parts {S : Type} {Lo : S → BL} (hk : ∀ s s', KinL (Lo s) (Lo s')) (hnd : ∀ s, (ids (Lo s)).Nodup) (hin : ∀ s, InB In (Lo s)) {aF : Bag_ → S → Option (Unit × S)} {f0 : AV} (hF : ∀ s H, Has H (Lo s) → In H f0) (h0 : cellsOf f0 = some [f0]) (hf : ∀ {x0 : Bag_} {s : S} {r : Unit × S}, aF x0 s = some r → CSat Try.prog f0 [.agg (Bag_.cells x0)] (Lo s) (.tup []) (Lo r.2)) : ∀ {n : Nat} {a0 : Bag_} {a1 : Int} {st : S} {r : Unit × S}, coins_parts n aF a0 a1 st = some r → HSat Try.prog 87 [.agg (Bag_.cells a0), .i a1, f0] (Lo st) (.tup []) (Lo r.2)
 | 0, _, _, _, _, h => nomatch (show none = some _ from h)
 | n + 1, _, _, _, _, h => W_coins_parts_b hk hnd hin hF h0 hf (n := n) (rec := coins_parts n aF) (fun h => W_coins_parts hk hnd hin hF h0 hf h) h
theorem W_coins_wheel_worth {n : Nat} {a0 : Wheel_} {a1 : Bag_} {r : Int} (hM : coins_wheel_worth n a0 a1 = some r) : PureSat Try.prog 89 [.agg (Wheel_.cells a0), .agg (Bag_.cells a1)] (.i r) := by
 refine pure_of_wp mixed Try.func89 rfl (by decide) Try.ntmps89 (by simp) ?pure fun H0 g hf => ?_
 case pure => exact .v _
 rw [frame0_of]
 change wpA _ _ _ _ (Fr.of [(0, .agg (Wheel_.cells a0)), (1, .agg (Bag_.cells a1))]) H0 g
 have hS := St.start hf
 refine Sq ?_
 refine Rg 3 ?_
 refine o_box (v := .agg (Wheel_.cells a0)) (cs := (Wheel_.cells a0)) hS (by decide) rfl rfl (by omega) fun H hS => ?_
 refine o_box (v := .agg (Bag_.cells a1)) (cs := (Bag_.cells a1)) hS (by decide) rfl rfl (by omega) fun H hS => ?_
 refine Oa (.i 0) ?_
 refine Ni ?_
 refine w_iceE (L' := [(g + 1, .cells (Bag_.cells a1))]) 1 2 hS rfl rfl rfl fun H hS => ?_
 refine w_iceE (L' := []) 0 3 hS rfl rfl rfl fun H hS => ?_
 refine Ws ?_
 refine Sq ?_
 refine Rg 1 ?_
 refine Oa (.i 0) ?_
 refine Ni ?_
 refine Ws ?_
 refine w_join (J := Int) (fun j => [(5, .i j)]) (fun j H' g' => St (· < g) H0 [] H' g' ∧ coins_wheel_worth_j1 j = some r) ?_ ?_
 ·rintro v1 H g1 ⟨hS, hM⟩
  change wpA _ _ _ _ (Fr.of [(5, .i v1)]) _ _
  replace hS : St (· < g) H0 [] H g1 := hS
  replace hM : coins_wheel_worth_j1 v1 = some r := hM
  refine Sq ?_
  refine Rg 2 ?_
  refine Om (.i v1) ?_
  refine Oa (.i v1) ?_
  refine Ni ?_
  refine Ws ?_
  refine r_ret ?_
  refine w_end (x := .i v1) (f := fun r => .i r) (.inr rfl) ?_ (.refl _) (Option.some.inj hM) hS
  exact (res_one (res_tmp (x := .i v1) rfl))
 ·refine Sq ?_
  refine Rg 5 ?_
  refine Of ((Wheel_.cells a0)) ty_fo71_0 ?_
  refine Of ((Wheel_.cells a0)) ty_fo24_2 ?_
  refine Olp (.sl .no 1 (a0.Wheel.Coins.map cI)) ty_agg22 ty_sc22 ?_
  refine o_len (n := a0.Wheel.Coins.length) (by decide) rfl (List.length_map _) ty_isl22 ?_
  refine Om (.i 0) ?_
  refine Ni ?_
  refine Ws ?_
  refine r_block ?_
  refine w_loop (V := Int × Int) (fun v => [(3, .ep (Bag_.cells a1)), (5, .i v.1), (10, .sl .no 1 (a0.Wheel.Coins.map cI)), (11, .i (a0.Wheel.Coins.length : Int)), (12, .i v.2)]) (fun v m2 H' g' => St (· < g) H0 [] H' g' ∧ coins_wheel_worth_l1 a0 a1 m2 v.1 v.2 = some r) (n := n) (0, 0) (.k (.k (.k (.k (.k .nil))))) ⟨(hS.keep [] rfl).up (by omega), hM⟩ ?_
  rintro ⟨v2, v3⟩ m2 H g2 ⟨hS, hM⟩
  obtain _ | m2 := m2
  ·exact nomatch (show none = some _ from hM)
  change wpA _ _ _ _ (Fr.of [(3, .ep (Bag_.cells a1)), (5, .i v2), (10, .sl .no 1 (a0.Wheel.Coins.map cI)), (11, .i (a0.Wheel.Coins.length : Int)), (12, .i v3)]) _ _
  replace hS : St (· < g) H0 [] H g2 := hS
  replace hM : coins_wheel_worth_l1_b a0 a1 (coins_wheel_worth_l1 a0 a1 m2) v2 v3 = some r := hM
  refine Sq ?_
  refine Rg 1 ?_
  refine Oi (.b (decide (v3 < (a0.Wheel.Coins.length : Int)))) ?_
  refine Ni ?_
  refine Ws ?_
  refine Sq ?_
  rcases bft (decide (v3 < (a0.Wheel.Coins.length : Int))) with hb4 | hb4
  ·replace hM := ifT hM hb4
   refine Ct hb4 ?_
   refine r_skip ?_
   refine Ws ?_
   refine Sq ?_
   refine r_block ?_
   refine Sq ?_
   refine Rg 5 ?_
   refine Om (.i v3) ?_
   obtain ⟨x5, hx5, hM⟩ := bindE hM
   refine o_index (xs := a0.Wheel.Coins) (f := cI) (z := v3) (u := x5) (by decide) rfl rfl ty_es22 hx5 ?_
   refine Olp (.i x5) ty_agg3 ty_sc3 ?_
   refine Oa (.i v3) ?_
   refine Oa (.i x5) ?_
   refine Ni ?_
   refine Ws ?_
   refine Rg 8 ?_
   refine Om (.i v2) ?_
   refine Om (.i x5) ?_
   refine Om (.i v3) ?_
   obtain ⟨x6, hx6, hM⟩ := bindE hM
   refine o_indexEA (cs := (Bag_.cells a1)) (z := v3) (by decide) rfl rfl ty_arr88 (idx_lt hx6) ?_
   refine o_loadE (v := .i x6) (by decide) rfl (part_ix (xs := ([a1.c0, a1.c1, a1.c2, a1.c3] : List Int)) ty_agg3 ty_sc3 rfl hx6) ?_
   refine Oi (.i (w64 (x5 * x6))) ?_
   refine Oi (.i (w64 (v2 + (w64 (x5 * x6))))) ?_
   refine Oa (.i (w64 (v2 + (w64 (x5 * x6))))) ?_
   refine Ni ?_
   refine r_blk_normal ?_
   refine Ws ?_
   refine Rg 2 ?_
   refine Oi (.i (w64 (v3 + 1))) ?_
   refine Om (.i (w64 (v3 + 1))) ?_
   refine Ni ?_
   exact w_round (w64 (v2 + (w64 (x5 * x6))), w64 (v3 + 1)) (Nat.lt_succ_self _) (.k (.k (.k (.k (.k .nil))))) ⟨(hS.keep [] rfl).up (by omega), hM⟩
  ·replace hM := ifF hM hb4
   refine Cf hb4 ?_
   refine r_exit ?_
   refine r_then_exit ?_
   refine w_round_exit ?_
   refine r_blk_exit ?_
   exact w_goto v2 (.k .nil) ⟨(hS.keep [] rfl).up (by omega), hM⟩
theorem W_coins_Wasted_c1 {p1 p2 : Nat} (hnd : [p1, p2].Nodup) {n : Nat} {a0 : Bag_} {a1 : Wheel_ × Bool} {a2 : Spot_} {a4 : Int} {st : Int × (List (Spot_ × Int))} {r : Unit × (Int × (List (Spot_ × Int)))} (hM : coins_Wasted_c1 n a0 a1 a2 a4 st = some r) : HSat Try.prog 88 [.agg (Bag_.cells a0), .ep [.ep (srchC a1.1 a1.2 p2)], .ep (Spot_.cells a2), .ptr p1 0, .ep [.i a4]] [(p1, .cells [.i st.1]), (p2, .obj none (mapIs (mpv kvSpot_ st.2)))] (.tup []) [(p1, .cells [.i r.2.1]), (p2, .obj none (mapIs (mpv kvSpot_ r.2.2)))] := by
 refine hsat_of_wp mixed Try.func88 rfl (by decide) Try.ntmps88 (by simp) (kl_cells (kl_obj kl_nil)) hnd ?pure ?cells fun H0 g hf_ hp => ?_
 case pure => exact fun H _ => (show Go.AM.Pure _ from .tup _ pl_nil).inH
 case cells => exact (inb_st (ic_cells (ci_cons (.inl (.inl (.v _))) ci_nil) (ic_obj ic_nil)) inb_nil)
 rw [frame0_of]
 change wpA _ _ _ _ (Fr.of [(0, .agg (Bag_.cells a0)), (1, .ep [.ep (srchC a1.1 a1.2 p2)]), (2, .ep (Spot_.cells a2)), (3, .ptr p1 0), (4, .ep [.i a4])]) H0 g
 have hS := St.startH (L := [(p1, .cells [.i st.1]), (p2, .obj none (mapIs (mpv kvSpot_ st.2)))]) hf_ hnd hp
 replace hS : St (fun i => i < g ∧ i ∉ ids [(p1, .cells [.i st.1]), (p2, .obj none (mapIs (mpv kvSpot_ st.2)))]) H0 [(p1, .cells [.i st.1]), (p2, .obj none (mapIs (mpv kvSpot_ st.2)))] H0 g := hS
 refine Sq ?_
 refine Rg 1 ?_
 refine o_box (v := .agg (Bag_.cells a0)) (cs := (Bag_.cells a0)) hS (by decide) rfl rfl (by omega) fun H hS => ?_
 refine Ni ?_
 refine w_iceE (L' := [(p1, .cells [.i st.1]), (p2, .obj none (mapIs (mpv kvSpot_ st.2)))]) 0 5 hS rfl rfl rfl fun H hS => ?_
 refine Ws ?_
 refine Sq ?_
 have hS0 := hS
 refine r_draw (n := 15) rfl (by kernel_rfl) ?_
 refine Olp (.ep (srchC a1.1 a1.2 p2)) ty_agg86 ty_sc86 ?_
 refine o_nilE (by decide) rfl ?_
 refine Of ((srchC a1.1 a1.2 p2)) ty_fo114_0 ?_
 refine Olg (.agg (Wheel_.cells a1.1)) ty_agg71 ?_
 refine Of ((Spot_.cells a2)) ty_fo90_0 ?_
 refine Olg (.agg (Bag_.cells a2.left)) ty_agg88 ?_
 obtain ⟨r1, hr1, hM⟩ := bindE hM
 refine o_call (bs := [.agg (Wheel_.cells a1.1), .agg (Bag_.cells a2.left)]) (by decide) rfl rfl ((W_coins_wheel_worth hr1).le (.k (.k .nil))) ?_
 refine Olp (.ep (srchC a1.1 a1.2 p2)) ty_agg86 ty_sc86 ?_
 refine o_nilE (by decide) rfl ?_
 refine Of ((srchC a1.1 a1.2 p2)) ty_fo114_0 ?_
 refine Olg (.agg (Wheel_.cells a1.1)) ty_agg71 ?_
 refine Olg (.agg (Bag_.cells a0)) ty_agg88 ?_
 obtain ⟨r2, hr2, hM⟩ := bindE hM
 refine o_call (bs := [.agg (Wheel_.cells a1.1), .agg (Bag_.cells a0)]) (by decide) rfl rfl ((W_coins_wheel_worth hr2).le (.k (.k .nil))) ?_
 refine Oi (.i (w64 (r1 - r2))) ?_
 refine Oa (.i (w64 (r1 - r2))) ?_
 refine Ni ?_
 refine Ws ?_
 refine w_join (J := Bool × (List (Spot_ × Int))) (fun j => [(3, .ptr p1 0), (6, .i (w64 (r1 - r2))), (31, .b j.1)]) (fun j H' g' => St (fun i => i < g ∧ i ∉ ids [(p1, .cells [.i st.1]), (p2, .obj none (mapIs (mpv kvSpot_ st.2)))]) H0 [(p1, .cells [.i st.1]), (p2, .obj none (mapIs (mpv kvSpot_ j.2)))] H' g' ∧ coins_Wasted_c1_j1 st r1 r2 j.1 j.2 = some r) ?_ ?_
 ·rintro ⟨v3, v4⟩ H g1 ⟨hS, hM⟩
  change wpA _ _ _ _ (Fr.of [(3, .ptr p1 0), (6, .i (w64 (r1 - r2))), (31, .b v3)]) _ _
  replace hS : St (fun i => i < g ∧ i ∉ ids [(p1, .cells [.i st.1]), (p2, .obj none (mapIs (mpv kvSpot_ st.2)))]) H0 [(p1, .cells [.i st.1]), (p2, .obj none (mapIs (mpv kvSpot_ v4)))] H g1 := hS
  replace hM : coins_Wasted_c1_j1 st r1 r2 v3 v4 = some r := hM
  rcases bft v3 with hb5 | hb5
  ·replace hM := ifT hM hb5
   refine Ct hb5 ?_
   refine Rg 2 ?_
   refine Om (.i (w64 (r1 - r2))) ?_
   refine o_store (v := .i (w64 (r1 - r2))) (ns := [.i (w64 (r1 - r2))]) (L' := [(p1, .cells [.i (w64 (r1 - r2))]), (p2, .obj none (mapIs (mpv kvSpot_ v4)))]) 0 hS rfl rfl .no rfl rfl ty_var3 nlb rfl fun H hS => ?_
   refine Ni ?_
   refine w_endS (x := .tup []) (f := fun r => .tup []) (fd := fun r => [(p1, .cells [.i r.2.1]), (p2, .obj none (mapIs (mpv kvSpot_ r.2.2)))]) (.inl rfl) ?_ (.refl _) (Option.some.inj hM) hS 0 rfl
   exact rfl
  ·replace hM := ifF hM hb5
   refine Cf hb5 ?_
   refine r_skip ?_
   refine w_endS (x := .tup []) (f := fun r => .tup []) (fd := fun r => [(p1, .cells [.i r.2.1]), (p2, .obj none (mapIs (mpv kvSpot_ r.2.2)))]) (.inl rfl) ?_ (.refl _) (Option.some.inj hM) hS 0 rfl
   exact rfl
 ·have hS0 := hS
  refine r_draw (n := 11) rfl (by kernel_rfl) ?_
  refine Om (.i (w64 (r1 - r2))) ?_
  refine o_load (v := .i st.1) 0 hS (by decide) rfl rfl (.st hS0 0 rfl (by omega)) (po ty_agg3 ty_sc3) ?_
  refine Oi (.b (decide ((w64 (r1 - r2)) > st.1))) ?_
  refine Om (.b (decide ((w64 (r1 - r2)) > st.1))) ?_
  rcases bft (decide ((w64 (r1 - r2)) > st.1)) with hb6 | hb6
  ·replace hM := ifT hM hb6
   refine Oy (want := true) hb6 ?_
   refine Olp (.ep (srchC a1.1 a1.2 p2)) ty_agg86 ty_sc86 ?_
   refine Oy (want := true) hb6 ?_
   refine Olg (.agg (Bag_.cells a0)) ty_agg88 ?_
   refine Oy (want := true) hb6 ?_
   refine o_build (cs := [.i a0.c0, .i a0.c1, .i a0.c2, .i a0.c3, .i 0, .i 0]) (by decide) ty_zero90 ty_pl90 rfl ?_
   refine Oy (want := true) hb6 ?_
   obtain ⟨r7, hr7, hM⟩ := bindE hM
   have hndr7 := hS.nd_at (ns := [1]) (M := [(p2, .obj none (mapIs (mpv kvSpot_ st.2)))]) (M' := [(p2, .obj none (mapIs (mpv kvSpot_ r7.2)))]) (.cons rfl .nil) (by decide)
   refine o_hsat (bs := [.ep (srchC a1.1 a1.2 p2), .agg [.i a0.c0, .i a0.c1, .i a0.c2, .i a0.c3, .i 0, .i 0]]) (M := [(p2, .obj none (mapIs (mpv kvSpot_ st.2)))]) (M' := [(p2, .obj none (mapIs (mpv kvSpot_ r7.2)))]) (L' := [(p1, .cells [.i st.1]), (p2, .obj none (mapIs (mpv kvSpot_ r7.2)))]) [1] (.inr (by kernel_rfl)) hS (by decide) rfl rfl ((W_coins_search_buys (p1 := p2) hndr7 hr7).le (.k (.k .nil))) (.cons rfl .nil) rfl (by omega) fun H hS => ?_
   refine Oy (want := true) hb6 ?_
   refine Olp (.i a4) ty_agg3 ty_sc3 ?_
   refine Oy (want := true) hb6 ?_
   refine Oi (.b (r7.1 == a4)) ?_
   refine Pt (.b (r7.1 == a4)) hb6 ?_
   refine Ni ?_
   exact w_goto ((r7.1 == a4), r7.2) (.k (.k (.k .nil))) ⟨(hS.keep [true, true] rfl).up (by omega), hM⟩
  ·replace hM := ifF hM hb6
   refine On (want := true) hb6 ?_
   refine On (want := true) hb6 ?_
   refine On (want := true) hb6 ?_
   refine On (want := true) hb6 ?_
   refine On (want := true) hb6 ?_
   refine On (want := true) hb6 ?_
   refine Pf (.b false) hb6 ?_
   refine Ni ?_
   exact w_goto (false, st.2) (.k (.k (.k .nil))) ⟨(hS.keep [true, true] rfl).up (by omega), hM⟩
theorem W_coins_Wasted {n : Nat} {a0 : Wheel} {a1 : List Int} {r : Int × Int} (hM : coins_Wasted n a0 a1 = some r) : PureSat Try.prog 49 [.agg (Wheel.cells a0), .sl .no 1 (a1.map cI)] (.tup [.i r.1, .i r.2]) := by
 refine pure_of_wp mixed Try.func49 rfl (by decide) Try.ntmps49 (by simp) ?pure fun H0 g hf => ?_
 case pure => exact .tup _ (pl_cons (.v _) (pl_cons (.v _) pl_nil))
 rw [frame0_of]
 change wpA _ _ _ _ (Fr.of [(0, .agg (Wheel.cells a0)), (1, .sl .no 1 (a1.map cI))]) H0 g
 have hS := St.start hf
 refine Sq ?_
 refine Rg 3 ?_
 refine o_box (v := .agg (Wheel.cells a0)) (cs := (Wheel.cells a0)) hS (by decide) rfl rfl (by omega) fun H hS => ?_
 refine Oa (.i 0) ?_
 refine Oa (.i 0) ?_
 refine Ni ?_
 refine w_iceE (L' := []) 0 2 hS rfl rfl rfl fun H hS => ?_
 refine Ws ?_
 refine Sq ?_
 refine Rg 12 ?_
 refine Olg (.agg (Wheel.cells a0)) ty_agg24 ?_
 refine Om (.sl .no 1 (a1.map cI)) ?_
 obtain ⟨r1, hr1, hM⟩ := bindE hM
 rcases bft r1.1.isSome with hb2 | hb2
 ·replace hM := ifT hM hb2
  obtain ⟨x3, hx3, hM⟩ := bindE hM
  refine o_newAt (bs := [.agg (Wheel.cells a0), .sl .no 1 (a1.map cI), .fn (.func 65) [] []]) (.inl rfl) hS (by decide) rfl rfl ((W_coins_seek_some (r := r1.2) (by rw [← hx3]; exact hr1)).le (.k (.k (.k .nil)))) (by omega) fun H hS hU => ?_
  refine Om (.tup [.ep (srchC x3 true (g + 3 + 12 + 19)), .agg (Spot_.cells r1.2.1), .i r1.2.2]) ?_
  refine Ox (.ep (srchC x3 true (g + 3 + 12 + 19))) ?_
  refine Ox (.agg (Spot_.cells r1.2.1)) ?_
  refine Ox (.i r1.2.2) ?_
  refine o_allocU hS hU (by decide) ty_zero86 (by omega) (by omega) (by omega) fun H hS hU => ?_
  refine o_allocU hS hU (by decide) ty_zero90 (by omega) (by omega) (by omega) fun H hS hU => ?_
  refine o_store (v := .ep (srchC x3 true (g + 3 + 12 + 19))) (ns := [.ep (srchC x3 true (g + 3 + 12 + 19))]) (L' := [(g + 3 + 8, .cells [.i 0, .i 0, .i 0, .i 0, .i 0, .i 0]), (g + 3 + 7, .cells [.ep (srchC x3 true (g + 3 + 12 + 19))]), (g + 3 + 12 + 19, .obj none (mapIs (mpv kvSpot_ ([] : List (Spot_ × Int)))))]) 1 hS rfl rfl .no rfl rfl ty_var86 nlb rfl fun H hS => ?_
  refine o_store (v := .agg (Spot_.cells r1.2.1)) (ns := (Spot_.cells r1.2.1)) (L' := [(g + 3 + 8, .cells (Spot_.cells r1.2.1)), (g + 3 + 7, .cells [.ep (srchC x3 true (g + 3 + 12 + 19))]), (g + 3 + 12 + 19, .obj none (mapIs (mpv kvSpot_ ([] : List (Spot_ × Int)))))]) 0 hS rfl rfl .no rfl rfl ty_var90 nlb rfl fun H hS => ?_
  refine Oa (.i r1.2.2) ?_
  refine Ni ?_
  refine w_iceE (L' := [(g + 3 + 8, .cells (Spot_.cells r1.2.1)), (g + 3 + 12 + 19, .obj none (mapIs (mpv kvSpot_ ([] : List (Spot_ × Int)))))]) 1 6 hS rfl rfl rfl fun H hS => ?_
  refine w_iceE (L' := [(g + 3 + 12 + 19, .obj none (mapIs (mpv kvSpot_ ([] : List (Spot_ × Int)))))]) 0 7 hS rfl rfl rfl fun H hS => ?_
  refine Ws ?_
  refine Sq ?_
  refine Sq ?_
  refine Rg 2 ?_
  refine Om (.i r1.2.2) ?_
  refine Oi (.b (r1.2.2 != 0)) ?_
  refine Ni ?_
  refine Ws ?_
  rcases bft (r1.2.2 != 0) with hb4 | hb4
  ·replace hM := ifT hM hb4
   refine Ct hb4 ?_
   refine Sq ?_
   refine Rg 3 ?_
   refine Om (.i r1.2.2) ?_
   refine Oa (.i 0) ?_
   refine Oa (.i r1.2.2) ?_
   refine Ni ?_
   replace hS := hS.keep (L' := []) [false] rfl
   refine Ws ?_
   refine r_ret ?_
   refine r_then_ret ?_
   refine w_end (x := .tup [.i 0, .i r1.2.2]) (f := fun r => .tup [.i r.1, .i r.2]) (.inr rfl) ?_ (.refl _) (Option.some.inj hM) hS
   exact (res_two (res_tmp (x := .i 0) rfl) (res_tmp (x := .i r1.2.2) rfl))
  ·replace hM := ifF hM hb4
   refine Cf hb4 ?_
   refine r_skip ?_
   refine Ws ?_
   refine Sq ?_
   refine Rg 7 ?_
   refine Olp (.ep (srchC x3 true (g + 3 + 12 + 19))) ty_agg86 ty_sc86 ?_
   refine Olg (.agg (Spot_.cells r1.2.1)) ty_agg90 ?_
   obtain ⟨r5, hr5, hM⟩ := bindE hM
   have hndr5 := hS.nd_at (ns := [0]) (M := [(g + 3 + 12 + 19, .obj none (mapIs (mpv kvSpot_ ([] : List (Spot_ × Int)))))]) (M' := [(g + 3 + 12 + 19, .obj none (mapIs (mpv kvSpot_ r5.2)))]) (.cons rfl .nil) (by decide)
   refine o_hsat (bs := [.ep (srchC x3 true (g + 3 + 12 + 19)), .agg (Spot_.cells r1.2.1)]) (M := [(g + 3 + 12 + 19, .obj none (mapIs (mpv kvSpot_ ([] : List (Spot_ × Int)))))]) (M' := [(g + 3 + 12 + 19, .obj none (mapIs (mpv kvSpot_ r5.2)))]) (L' := [(g + 3 + 12 + 19, .obj none (mapIs (mpv kvSpot_ r5.2)))]) [0] (.inl rfl) hS (by decide) rfl rfl ((W_coins_search_buys (p1 := g + 3 + 12 + 19) hndr5 hr5).le (.k (.k .nil))) (.cons rfl .nil) rfl (by omega) fun H hS => ?_
   refine o_alloc hS (by decide) ty_zero3 (by omega) fun H hS => ?_
   refine o_alloc hS (by decide) ty_zero3 (by omega) fun H hS => ?_
   refine o_store (v := .i 0) (ns := [.i 0]) (L' := [(g + 3 + 12 + 19 + 1 + 2 + 4, .cells [.i 0]), (g + 3 + 12 + 19 + 1 + 2 + 3, .cells [.i 0]), (g + 3 + 12 + 19, .obj none (mapIs (mpv kvSpot_ r5.2)))]) 1 hS rfl rfl .no rfl rfl ty_var3 nlb rfl fun H hS => ?_
   refine o_store (v := .i r5.1) (ns := [.i r5.1]) (L' := [(g + 3 + 12 + 19 + 1 + 2 + 4, .cells [.i r5.1]), (g + 3 + 12 + 19 + 1 + 2 + 3, .cells [.i 0]), (g + 3 + 12 + 19, .obj none (mapIs (mpv kvSpot_ r5.2)))]) 0 hS rfl rfl .no rfl rfl ty_var3 nlb rfl fun H hS => ?_
   refine Ni ?_
   refine w_iceE (L' := [(g + 3 + 12 + 19 + 1 + 2 + 3, .cells [.i 0]), (g + 3 + 12 + 19, .obj none (mapIs (mpv kvSpot_ r5.2)))]) 0 10 hS rfl rfl rfl fun H hS => ?_
   refine Ws ?_
   refine Sq ?_
   refine Rg 4 ?_
   refine Of ((Spot_.cells r1.2.1)) ty_fo90_0 ?_
   refine Olg (.agg (Bag_.cells r1.2.1.left)) ty_agg88 ?_
   refine o_makeFunc (first := []) (cap := [.ep [.ep (srchC x3 true (g + 3 + 12 + 19))], .ep (Spot_.cells r1.2.1), .ptr (g + 3 + 12 + 19 + 1 + 2 + 3) 0, .ep [.i r5.1]]) (by decide) rfl rfl ?_
   obtain ⟨r6, hr6, hM⟩ := bindE hM
   have hndr6 := hS.nd_at (ns := [0, 1]) (M := [(g + 3 + 12 + 19 + 1 + 2 + 3, .cells [.i 0]), (g + 3 + 12 + 19, .obj none (mapIs (mpv kvSpot_ r5.2)))]) (M' := [(g + 3 + 12 + 19 + 1 + 2 + 3, .cells [.i r6.2.1]), (g + 3 + 12 + 19, .obj none (mapIs (mpv kvSpot_ r6.2.2)))]) (.cons rfl (.cons rfl .nil)) (by decide)
   have hncr6 := hS.nd_at (ns := [0, 1]) (M := [(g + 3 + 12 + 19 + 1 + 2 + 3, .cells [.i 0]), (g + 3 + 12 + 19, .obj none (mapIs (mpv kvSpot_ r5.2)))]) (M' := [(g + 3 + 12 + 19 + 1 + 2 + 3, .cells [.i r6.2.1]), (g + 3 + 12 + 19, .obj none (mapIs (mpv kvSpot_ r6.2.2)))]) (.cons rfl (.cons rfl .nil)) (by decide)
   refine o_hsat (bs := [.agg (Bag_.cells r1.2.1.left), .i 0, .fn (.func 88) [] [.ep [.ep (srchC x3 true (g + 3 + 12 + 19))], .ep (Spot_.cells r1.2.1), .ptr (g + 3 + 12 + 19 + 1 + 2 + 3) 0, .ep [.i r5.1]]]) (M := [(g + 3 + 12 + 19 + 1 + 2 + 3, .cells [.i 0]), (g + 3 + 12 + 19, .obj none (mapIs (mpv kvSpot_ r5.2)))]) (M' := [(g + 3 + 12 + 19 + 1 + 2 + 3, .cells [.i r6.2.1]), (g + 3 + 12 + 19, .obj none (mapIs (mpv kvSpot_ r6.2.2)))]) (L' := [(g + 3 + 12 + 19 + 1 + 2 + 3, .cells [.i r6.2.1]), (g + 3 + 12 + 19, .obj none (mapIs (mpv kvSpot_ r6.2.2)))]) [0, 1] (.inl rfl) hS (by decide) rfl rfl ((W_coins_parts (Lo := (fun (s : Int × (List (Spot_ × Int))) => [(g + 3 + 12 + 19 + 1 + 2 + 3, .cells [.i s.1]), (g + 3 + 12 + 19, .obj none (mapIs (mpv kvSpot_ s.2)))]))  (fun _ _ => (kl_cells (kl_obj kl_nil))) (fun _ => hndr6) (fun s => (inb_st (ic_cells (ci_cons (.inl (.inl (.v _))) ci_nil) (ic_obj ic_nil)) inb_nil)) (aF := (fun (x0 : Bag_) s => coins_Wasted_c1 n x0 (x3, true) r1.2.1 r5.1 s)) (fun s H hH => (.fn _ _ _ ai_nil (ai_cons (.ep _ (ai_cons (.ep _ (ai_cons (show Go.AM.Pure _ from .v _).inH (ai_cons (show Go.AM.Pure _ from .sl _ _ (pures_map (fun x => (pl_cons (.v _) pl_nil)))).inH (ai_cons (show Go.AM.Pure _ from .sl _ _ (pures_map (fun x => (pl_cons (.v _) pl_nil)))).inH (ai_cons (show Go.AM.Pure _ from pure_fnB _).inH (ai_cons (in_mp hH 1 rfl) ai_nil)))))) ai_nil)) (ai_cons (.ep _ (ai_cons (show Go.AM.Pure _ from .v _).inH (ai_cons (show Go.AM.Pure _ from .v _).inH (ai_cons (show Go.AM.Pure _ from .v _).inH (ai_cons (show Go.AM.Pure _ from .v _).inH (ai_cons (show Go.AM.Pure _ from .v _).inH (ai_cons (show Go.AM.Pure _ from .v _).inH ai_nil))))))) (ai_cons (in_ptr hH 0 rfl) (ai_cons (.ep _ (ai_cons (show Go.AM.Pure _ from .v _).inH ai_nil)) ai_nil)))))) rfl (fun h => csat_hv (W_coins_Wasted_c1 (p1 := g + 3 + 12 + 19 + 1 + 2 + 3)  (p2 := g + 3 + 12 + 19)  hncr6 h)) hr6).le (.k (.k (.k .nil)))) (.cons rfl (.cons rfl .nil)) rfl (by omega) fun H hS => ?_
   refine Ni ?_
   replace hS := hS.keep (L' := [(g + 3 + 12 + 19 + 1 + 2 + 3, .cells [.i r6.2.1])]) [true, false] rfl
   refine Ws ?_
   refine Sq ?_
   refine Rg 3 ?_
   refine o_load (v := .i r6.2.1) 0 hS (by decide) rfl rfl .no (po ty_agg3 ty_sc3) ?_
   refine Oa (.i r6.2.1) ?_
   refine Oa (.i 0) ?_
   refine Ni ?_
   replace hS := hS.keep (L' := []) [false] rfl
   refine Ws ?_
   refine r_ret ?_
   refine w_end (x := .tup [.i r6.2.1, .i 0]) (f := fun r => .tup [.i r.1, .i r.2]) (.inr rfl) ?_ (.refl _) (Option.some.inj hM) hS
   exact (res_two (res_tmp (x := .i r6.2.1) rfl) (res_tmp (x := .i 0) rfl))
 ·replace hM := ifF hM hb2
  have hb2' : r1.1 = none := by rw [Option.isSome_eq_false_iff, Option.isNone_iff_eq_none] at hb2; exact hb2
  refine o_call (bs := [.agg (Wheel.cells a0), .sl .no 1 (a1.map cI), .fn (.func 65) [] []]) (by decide) rfl rfl ((W_coins_seek_none (r := r1.2) (by rw [← hb2']; exact hr1)).le (.k (.k (.k .nil)))) ?_
  refine Om (.tup [.v (.pointer none), .agg (Spot_.cells r1.2.1), .i r1.2.2]) ?_
  refine Ox (.v (.pointer none)) ?_
  refine Ox (.agg (Spot_.cells r1.2.1)) ?_
  refine Ox (.i r1.2.2) ?_
  refine o_alloc hS (by decide) ty_zero86 (by omega) fun H hS => ?_
  refine o_alloc hS (by decide) ty_zero90 (by omega) fun H hS => ?_
  refine o_store (v := .v (.pointer none)) (ns := [.v (.pointer none)]) (L' := [(g + 3 + 8, .cells [.i 0, .i 0, .i 0, .i 0, .i 0, .i 0]), (g + 3 + 7, .cells [.v (.pointer none)])]) 1 hS rfl rfl .no rfl rfl ty_var86 nlb rfl fun H hS => ?_
  refine o_store (v := .agg (Spot_.cells r1.2.1)) (ns := (Spot_.cells r1.2.1)) (L' := [(g + 3 + 8, .cells (Spot_.cells r1.2.1)), (g + 3 + 7, .cells [.v (.pointer none)])]) 0 hS rfl rfl .no rfl rfl ty_var90 nlb rfl fun H hS => ?_
  refine Oa (.i r1.2.2) ?_
  refine Ni ?_
  refine w_iceE (L' := [(g + 3 + 8, .cells (Spot_.cells r1.2.1))]) 1 6 hS rfl rfl rfl fun H hS => ?_
  refine w_iceE (L' := []) 0 7 hS rfl rfl rfl fun H hS => ?_
  refine Ws ?_
  refine Sq ?_
  refine Sq ?_
  refine Rg 2 ?_
  refine Om (.i r1.2.2) ?_
  refine Oi (.b (r1.2.2 != 0)) ?_
  refine Ni ?_
  refine Ws ?_
  rcases bft (r1.2.2 != 0) with hb7 | hb7
  ·replace hM := ifT hM hb7
   refine Ct hb7 ?_
   refine Sq ?_
   refine Rg 3 ?_
   refine Om (.i r1.2.2) ?_
   refine Oa (.i 0) ?_
   refine Oa (.i r1.2.2) ?_
   refine Ni ?_
   refine Ws ?_
   refine r_ret ?_
   refine r_then_ret ?_
   refine w_end (x := .tup [.i 0, .i r1.2.2]) (f := fun r => .tup [.i r.1, .i r.2]) (.inr rfl) ?_ (.refl _) (Option.some.inj hM) hS
   exact (res_two (res_tmp (x := .i 0) rfl) (res_tmp (x := .i r1.2.2) rfl))
  ·replace hM := ifF hM hb7
   refine Cf hb7 ?_
   refine r_skip ?_
   refine Ws ?_
   refine Sq ?_
   refine Rg 7 ?_
   refine Olp (.v (.pointer none)) ty_agg86 ty_sc86 ?_
   refine Olg (.agg (Spot_.cells r1.2.1)) ty_agg90 ?_
   exact nomatch (show none = some _ from hM)
theorem W_law01_CoinsWasted {n : Nat} {a0 : Wheel} {a1 : List Int} {a2 : List Int} {r : Bool} (hM : law01_CoinsWasted n a0 a1 a2 = some r) : PureSat Try.prog 12 [.agg (Wheel.cells a0), .sl .no 1 (a1.map cI), .sl .no 1 (a2.map cI)] (.b r) := by
 refine pure_of_wp mixed Try.func12 rfl (by decide) Try.ntmps12 (by simp) ?pure fun H0 g hf => ?_
 case pure => exact .v _
 rw [frame0_of]
 change wpA _ _ _ _ (Fr.of [(0, .agg (Wheel.cells a0)), (1, .sl .no 1 (a1.map cI)), (2, .sl .no 1 (a2.map cI))]) H0 g
 have hS := St.start hf
 refine Sq ?_
 refine Rg 2 ?_
 refine o_box (v := .agg (Wheel.cells a0)) (cs := (Wheel.cells a0)) hS (by decide) rfl rfl (by omega) fun H hS => ?_
 refine Oa (.b false) ?_
 refine Ni ?_
 refine w_iceE (L' := []) 0 3 hS rfl rfl rfl fun H hS => ?_
 refine Ws ?_
 refine Sq ?_
 refine w_join (J := Bool) (fun j => [(1, .sl .no 1 (a1.map cI)), (2, .sl .no 1 (a2.map cI)), (3, .ep (Wheel.cells a0)), (44, .b j)]) (fun j H' g' => St (· < g) H0 [] H' g' ∧ law01_CoinsWasted_j1 n a0 a1 a2 j = some r) ?_ ?_
 ·rintro v1 H g1 ⟨hS, hM⟩
  change wpA _ _ _ _ (Fr.of [(1, .sl .no 1 (a1.map cI)), (2, .sl .no 1 (a2.map cI)), (3, .ep (Wheel.cells a0)), (44, .b v1)]) _ _
  replace hS : St (· < g) H0 [] H g1 := hS
  replace hM : law01_CoinsWasted_j1 n a0 a1 a2 v1 = some r := hM
  rcases bft v1 with hb2 | hb2
  ·replace hM := ifT hM hb2
   refine Ct hb2 ?_
   refine Sq ?_
   refine Rg 2 ?_
   obtain ⟨r3, hr3, hM⟩ := bindE hM
   refine o_call (bs := []) (by decide) rfl rfl ((W_law01_works hr3).le .nil) ?_
   refine Oa (.b r3) ?_
   refine Ni ?_
   refine Ws ?_
   refine r_ret ?_
   refine r_then_ret ?_
   refine w_end (x := .b r3) (f := fun r => .b r) (.inr rfl) ?_ (.refl _) (Option.some.inj hM) hS
   exact (res_one (res_tmp (x := .b r3) rfl))
  ·replace hM := ifF hM hb2
   refine Cf hb2 ?_
   refine r_skip ?_
   refine Ws ?_
   refine w_join (J := Unit) (fun j => [(1, .sl .no 1 (a1.map cI)), (2, .sl .no 1 (a2.map cI)), (3, .ep (Wheel.cells a0))]) (fun j H' g' => St (· < g) H0 [] H' g' ∧ law01_CoinsWasted_j2 n a0 a1 a2 = some r) ?_ ?_
   ·rintro _ H g2 ⟨hS, hM⟩
    change wpA _ _ _ _ (Fr.of [(1, .sl .no 1 (a1.map cI)), (2, .sl .no 1 (a2.map cI)), (3, .ep (Wheel.cells a0))]) _ _
    replace hS : St (· < g) H0 [] H g2 := hS
    replace hM : law01_CoinsWasted_j2 n a0 a1 a2 = some r := hM
    refine Sq ?_
    have hS0 := hS
    refine r_draw (n := 9) rfl (by kernel_rfl) ?_
    refine Olg (.agg (Wheel.cells a0)) ty_agg24 ?_
    refine Om (.sl .no 1 (a1.map cI)) ?_
    obtain ⟨r4, hr4, hM⟩ := bindE hM
    refine o_call (bs := [.sl .no 1 (a1.map cI), .sl .nil 0 []]) (by decide) rfl rfl ((W_law01_joined hr4).le (.k (.cons (.sl0 .nil 1 0) .nil))) ?_
    obtain ⟨r5, hr5, hM⟩ := bindE hM
    refine o_call (bs := [.agg (Wheel.cells a0), .sl .no 1 (r4.map cI)]) (by decide) rfl rfl ((W_coins_Most hr5).le (.k (.k .nil))) ?_
    refine Om (.tup [.i r5.1, .i r5.2]) ?_
    refine Ox (.i r5.1) ?_
    refine Ox (.i r5.2) ?_
    refine Oa (.i r5.1) ?_
    refine Oa (.i r5.2) ?_
    refine Ni ?_
    refine Ws ?_
    refine Sq ?_
    have hS0 := hS
    refine r_draw (n := 9) rfl (by kernel_rfl) ?_
    refine Olg (.agg (Wheel.cells a0)) ty_agg24 ?_
    refine Om (.sl .no 1 (a2.map cI)) ?_
    obtain ⟨r6, hr6, hM⟩ := bindE hM
    refine o_call (bs := [.sl .no 1 (a2.map cI), .sl .nil 0 []]) (by decide) rfl rfl ((W_law01_joined hr6).le (.k (.cons (.sl0 .nil 1 0) .nil))) ?_
    obtain ⟨r7, hr7, hM⟩ := bindE hM
    refine o_call (bs := [.agg (Wheel.cells a0), .sl .no 1 (r6.map cI)]) (by decide) rfl rfl ((W_coins_Most hr7).le (.k (.k .nil))) ?_
    refine Om (.tup [.i r7.1, .i r7.2]) ?_
    refine Ox (.i r7.1) ?_
    refine Ox (.i r7.2) ?_
    refine Oa (.i r7.1) ?_
    refine Oa (.i r7.2) ?_
    refine Ni ?_
    refine Ws ?_
    refine Sq ?_
    have hS0 := hS
    refine r_draw (n := 9) rfl (by kernel_rfl) ?_
    refine Olg (.agg (Wheel.cells a0)) ty_agg24 ?_
    refine Om (.sl .no 1 (a1.map cI)) ?_
    obtain ⟨r8, hr8, hM⟩ := bindE hM
    refine o_call (bs := [.sl .no 1 (a1.map cI), .sl .nil 0 []]) (by decide) rfl rfl ((W_law01_joined hr8).le (.k (.cons (.sl0 .nil 1 0) .nil))) ?_
    obtain ⟨r9, hr9, hM⟩ := bindE hM
    refine o_call (bs := [.agg (Wheel.cells a0), .sl .no 1 (r8.map cI)]) (by decide) rfl rfl ((W_coins_Wasted hr9).le (.k (.k .nil))) ?_
    refine Om (.tup [.i r9.1, .i r9.2]) ?_
    refine Ox (.i r9.1) ?_
    refine Ox (.i r9.2) ?_
    refine Oa (.i r9.1) ?_
    refine Oa (.i r9.2) ?_
    refine Ni ?_
    refine Ws ?_
    refine Sq ?_
    refine Rg 4 ?_
    refine Olg (.agg (Wheel.cells a0)) ty_agg24 ?_
    refine Om (.sl .no 1 (a1.map cI)) ?_
    obtain ⟨r10, hr10, hM⟩ := bindE hM
    refine o_call (bs := [.agg (Wheel.cells a0), .sl .no 1 (a1.map cI)]) (by decide) rfl rfl ((W_ref01_PurseWorth hr10).le (.k (.k .nil))) ?_
    refine Oa (.i r10) ?_
    refine Ni ?_
    refine Ws ?_
    refine Sq ?_
    refine w_join (J := Bool) (fun j => [(2, .sl .no 1 (a2.map cI)), (3, .ep (Wheel.cells a0)), (8, .i r5.1), (10, .i r7.1), (12, .i r9.1), (14, .i r10), (109, .b j)]) (fun j H' g' => St (· < g) H0 [] H' g' ∧ law01_CoinsWasted_j3 n a0 a2 r5 r7 r9 r10 j = some r) ?_ ?_
    ·rintro v11 H g3 ⟨hS, hM⟩
     change wpA _ _ _ _ (Fr.of [(2, .sl .no 1 (a2.map cI)), (3, .ep (Wheel.cells a0)), (8, .i r5.1), (10, .i r7.1), (12, .i r9.1), (14, .i r10), (109, .b v11)]) _ _
     replace hS : St (· < g) H0 [] H g3 := hS
     replace hM : law01_CoinsWasted_j3 n a0 a2 r5 r7 r9 r10 v11 = some r := hM
     rcases bft v11 with hb12 | hb12
     ·replace hM := ifT hM hb12
      refine Ct hb12 ?_
      refine Sq ?_
      refine Rg 1 ?_
      refine Oa (.b false) ?_
      refine Ni ?_
      refine Ws ?_
      refine r_ret ?_
      refine r_then_ret ?_
      refine w_end (x := .b false) (f := fun r => .b r) (.inr rfl) ?_ (.refl _) (Option.some.inj hM) hS
      exact (res_one (res_tmp (x := .b false) rfl))
     ·replace hM := ifF hM hb12
      refine Cf hb12 ?_
      refine r_skip ?_
      refine Ws ?_
      refine w_join (J := Bool) (fun j => [(6, .b j)]) (fun j H' g' => St (· < g) H0 [] H' g' ∧ law01_CoinsWasted_j4 j = some r) ?_ ?_
      ·rintro v13 H g4 ⟨hS, hM⟩
       change wpA _ _ _ _ (Fr.of [(6, .b v13)]) _ _
       replace hS : St (· < g) H0 [] H g4 := hS
       replace hM : law01_CoinsWasted_j4 v13 = some r := hM
       refine r_ret ?_
       refine w_end (x := .b v13) (f := fun r => .b r) (.inr rfl) ?_ (.refl _) (Option.some.inj hM) hS
       exact (res_one (res_tmp (x := .b v13) rfl))
      ·refine Rg 16 ?_
       refine Om (.i r10) ?_
       refine Olg (.agg (Wheel.cells a0)) ty_agg24 ?_
       refine Om (.sl .no 1 (a2.map cI)) ?_
       obtain ⟨r14, hr14, hM⟩ := bindE hM
       refine o_call (bs := [.agg (Wheel.cells a0), .sl .no 1 (a2.map cI)]) (by decide) rfl rfl ((W_ref01_PurseWorth hr14).le (.k (.k .nil))) ?_
       refine Oi (.i (w64 (r10 - r14))) ?_
       refine Om (.i r9.1) ?_
       refine Oi (.b (decide ((w64 (r10 - r14)) ≤ r9.1))) ?_
       refine Om (.b (decide ((w64 (r10 - r14)) ≤ r9.1))) ?_
       rcases bft (decide ((w64 (r10 - r14)) ≤ r9.1)) with hb15 | hb15
       ·replace hM := ifT hM hb15
        refine On (want := false) hb15 ?_
        refine On (want := false) hb15 ?_
        refine On (want := false) hb15 ?_
        refine Pt (.b true) hb15 ?_
        refine Om (.b true) ?_
        refine Oz ?_
        obtain ⟨r16, hr16, hM⟩ := bindE hM
        refine o_call (bs := []) (by decide) rfl rfl ((W_law01_works hr16).le .nil) ?_
        refine o_pickT (v := .b r16) (e := true) (by decide) rfl rfl rfl ?_
        refine Oa (.b r16) ?_
        refine Ni ?_
        exact w_goto r16 (.k .nil) ⟨(hS.keep [] rfl).up (by omega), hM⟩
       ·replace hM := ifF hM hb15
        refine Oy (want := false) hb15 ?_
        refine Om (.i r7.1) ?_
        refine Oy (want := false) hb15 ?_
        refine Om (.i r5.1) ?_
        refine Oy (want := false) hb15 ?_
        refine Oi (.b (decide (r7.1 < r5.1))) ?_
        refine Pf (.b (decide (r7.1 < r5.1))) hb15 ?_
        refine Om (.b (decide (r7.1 < r5.1))) ?_
        rcases bft (decide (r7.1 < r5.1)) with hb17 | hb17
        ·replace hM := ifT hM hb17
         refine Oy (want := true) hb17 ?_
         obtain ⟨r18, hr18, hM⟩ := bindE hM
         refine o_call (bs := []) (by decide) rfl rfl ((W_law01_works hr18).le .nil) ?_
         refine Pt (.b r18) hb17 ?_
         refine Oa (.b r18) ?_
         refine Ni ?_
         exact w_goto r18 (.k .nil) ⟨(hS.keep [] rfl).up (by omega), hM⟩
        ·replace hM := ifF hM hb17
         refine On (want := true) hb17 ?_
         refine Pf (.b false) hb17 ?_
         refine Oa (.b false) ?_
         refine Ni ?_
         exact w_goto false (.k .nil) ⟨(hS.keep [] rfl).up (by omega), hM⟩
    ·refine Rg 24 ?_
     refine Om (.i r5.2) ?_
     refine Oi (.b (r5.2 != 0)) ?_
     refine Om (.b (r5.2 != 0)) ?_
     rcases bft (r5.2 != 0) with hb19 | hb19
     ·replace hM := ifT hM hb19
      refine On (want := false) hb19 ?_
      refine On (want := false) hb19 ?_
      refine Pt (.b true) hb19 ?_
      refine Om (.b true) ?_
      refine Og ?_
      refine Og ?_
      refine o_pickT (v := .b true) (e := true) (by decide) rfl rfl rfl ?_
      refine Om (.b true) ?_
      refine Og ?_
      refine Og ?_
      refine o_pickT (v := .b true) (e := true) (by decide) rfl rfl rfl ?_
      refine Om (.b true) ?_
      refine Og ?_
      refine Og ?_
      refine Og ?_
      refine o_pickT (v := .b true) (e := true) (by decide) rfl rfl rfl ?_
      refine Om (.b true) ?_
      refine Og ?_
      refine Og ?_
      refine Og ?_
      refine o_pickT (v := .b true) (e := true) (by decide) rfl rfl rfl ?_
      refine Ni ?_
      exact w_goto true (.k (.k (.k (.k (.k (.k (.k .nil))))))) ⟨(hS.keep [] rfl).up (by omega), hM⟩
     ·replace hM := ifF hM hb19
      refine Oy (want := false) hb19 ?_
      refine Om (.i r7.2) ?_
      refine Oy (want := false) hb19 ?_
      refine Oi (.b (r7.2 != 0)) ?_
      refine Pf (.b (r7.2 != 0)) hb19 ?_
      refine Om (.b (r7.2 != 0)) ?_
      rcases bft (r7.2 != 0) with hb20 | hb20
      ·replace hM := ifT hM hb20
       refine On (want := false) hb20 ?_
       refine On (want := false) hb20 ?_
       refine Pt (.b true) hb20 ?_
       refine Om (.b true) ?_
       refine Og ?_
       refine Og ?_
       refine o_pickT (v := .b true) (e := true) (by decide) rfl rfl rfl ?_
       refine Om (.b true) ?_
       refine Og ?_
       refine Og ?_
       refine Og ?_
       refine o_pickT (v := .b true) (e := true) (by decide) rfl rfl rfl ?_
       refine Om (.b true) ?_
       refine Og ?_
       refine Og ?_
       refine Og ?_
       refine o_pickT (v := .b true) (e := true) (by decide) rfl rfl rfl ?_
       refine Ni ?_
       exact w_goto true (.k (.k (.k (.k (.k (.k (.k .nil))))))) ⟨(hS.keep [] rfl).up (by omega), hM⟩
      ·replace hM := ifF hM hb20
       refine Oy (want := false) hb20 ?_
       refine Om (.i r9.2) ?_
       refine Oy (want := false) hb20 ?_
       refine Oi (.b (r9.2 != 0)) ?_
       refine Pf (.b (r9.2 != 0)) hb20 ?_
       refine Om (.b (r9.2 != 0)) ?_
       rcases bft (r9.2 != 0) with hb21 | hb21
       ·replace hM := ifT hM hb21
        refine On (want := false) hb21 ?_
        refine On (want := false) hb21 ?_
        refine Pt (.b true) hb21 ?_
        refine Om (.b true) ?_
        refine Og ?_
        refine Og ?_
        refine Og ?_
        refine o_pickT (v := .b true) (e := true) (by decide) rfl rfl rfl ?_
        refine Om (.b true) ?_
        refine Og ?_
        refine Og ?_
        refine Og ?_
        refine o_pickT (v := .b true) (e := true) (by decide) rfl rfl rfl ?_
        refine Ni ?_
        exact w_goto true (.k (.k (.k (.k (.k (.k (.k .nil))))))) ⟨(hS.keep [] rfl).up (by omega), hM⟩
       ·replace hM := ifF hM hb21
        refine Oy (want := false) hb21 ?_
        refine Om (.i r9.1) ?_
        refine Oy (want := false) hb21 ?_
        refine Oi (.b (decide (r9.1 < 0))) ?_
        refine Pf (.b (decide (r9.1 < 0))) hb21 ?_
        refine Om (.b (decide (r9.1 < 0))) ?_
        rcases bft (decide (r9.1 < 0)) with hb22 | hb22
        ·replace hM := ifT hM hb22
         refine On (want := false) hb22 ?_
         refine On (want := false) hb22 ?_
         refine On (want := false) hb22 ?_
         refine Pt (.b true) hb22 ?_
         refine Om (.b true) ?_
         refine Og ?_
         refine Og ?_
         refine Og ?_
         refine o_pickT (v := .b true) (e := true) (by decide) rfl rfl rfl ?_
         refine Ni ?_
         exact w_goto true (.k (.k (.k (.k (.k (.k (.k .nil))))))) ⟨(hS.keep [] rfl).up (by omega), hM⟩
        ·replace hM := ifF hM hb22
         refine Oy (want := false) hb22 ?_
         refine Om (.i r9.1) ?_
         refine Oy (want := false) hb22 ?_
         refine Om (.i r10) ?_
         refine Oy (want := false) hb22 ?_
         refine Oi (.b (decide (r9.1 > r10))) ?_
         refine Pf (.b (decide (r9.1 > r10))) hb22 ?_
         refine Om (.b (decide (r9.1 > r10))) ?_
         rcases bft (decide (r9.1 > r10)) with hb23 | hb23
         ·replace hM := ifT hM hb23
          refine On (want := false) hb23 ?_
          refine On (want := false) hb23 ?_
          refine On (want := false) hb23 ?_
          refine Pt (.b true) hb23 ?_
          refine Ni ?_
          exact w_goto true (.k (.k (.k (.k (.k (.k (.k .nil))))))) ⟨(hS.keep [] rfl).up (by omega), hM⟩
         ·replace hM := ifF hM hb23
          refine Oy (want := false) hb23 ?_
          refine Om (.i r7.1) ?_
          refine Oy (want := false) hb23 ?_
          refine Om (.i r5.1) ?_
          refine Oy (want := false) hb23 ?_
          refine Oi (.b (decide (r7.1 > r5.1))) ?_
          refine Pf (.b (decide (r7.1 > r5.1))) hb23 ?_
          refine Ni ?_
          exact w_goto (decide (r7.1 > r5.1)) (.k (.k (.k (.k (.k (.k (.k .nil))))))) ⟨(hS.keep [] rfl).up (by omega), hM⟩
   ·refine Sq ?_
    refine Rg 1 ?_
    refine Oa (.i 0) ?_
    refine Ni ?_
    refine Ws ?_
    refine r_block ?_
    refine w_loop (V := Int) (fun v => [(1, .sl .no 1 (a1.map cI)), (2, .sl .no 1 (a2.map cI)), (3, .ep (Wheel.cells a0)), (7, .i v)]) (fun v m5 H' g' => St (· < g) H0 [] H' g' ∧ law01_CoinsWasted_l1 n a0 a1 a2 m5 v = some r) (n := n) 0 (.k (.k (.k (.k .nil)))) ⟨(hS.keep [] rfl).up (by omega), hM⟩ ?_
    rintro v24 m5 H g5 ⟨hS, hM⟩
    obtain _ | m5 := m5
    ·exact nomatch (show none = some _ from hM)
    change wpA _ _ _ _ (Fr.of [(1, .sl .no 1 (a1.map cI)), (2, .sl .no 1 (a2.map cI)), (3, .ep (Wheel.cells a0)), (7, .i v24)]) _ _
    replace hS : St (· < g) H0 [] H g5 := hS
    replace hM : law01_CoinsWasted_l1_b n a0 a1 a2 (law01_CoinsWasted_l1 n a0 a1 a2 m5) v24 = some r := hM
    refine Sq ?_
    refine Sq ?_
    refine Rg 4 ?_
    refine Om (.i v24) ?_
    refine Om (.sl .no 1 (a2.map cI)) ?_
    refine o_len (n := a2.length) (by decide) rfl (List.length_map _) ty_isl22 ?_
    refine Oi (.b (decide (v24 < (a2.length : Int)))) ?_
    refine Ni ?_
    refine Ws ?_
    rcases bft (decide (v24 < (a2.length : Int))) with hb25 | hb25
    ·replace hM := ifT hM hb25
     refine Ct hb25 ?_
     refine r_skip ?_
     refine Ws ?_
     refine Sq ?_
     refine r_block ?_
     refine Sq ?_
     have hS0 := hS
     refine r_draw (n := 9) rfl (by kernel_rfl) ?_
     refine Om (.sl .no 1 (a2.map cI)) ?_
     refine Om (.i v24) ?_
     obtain ⟨x26, hx26, hM⟩ := bindE hM
     refine o_index (xs := a2) (f := cI) (z := v24) (u := x26) (by decide) rfl rfl ty_es22 hx26 ?_
     refine Olp (.i x26) ty_agg3 ty_sc3 ?_
     refine Om (.sl .no 1 (a1.map cI)) ?_
     refine Om (.i v24) ?_
     obtain ⟨x27, hx27, hM⟩ := bindE hM
     refine o_index (xs := a1) (f := cI) (z := v24) (u := x27) (by decide) rfl rfl ty_es22 hx27 ?_
     refine Olp (.i x27) ty_agg3 ty_sc3 ?_
     refine Oi (.b (decide (x26 > x27))) ?_
     refine Ni ?_
     refine Ws ?_
     rcases bft (decide (x26 > x27)) with hb28 | hb28
     ·replace hM := ifT hM hb28
      refine Ct hb28 ?_
      refine Sq ?_
      refine Rg 2 ?_
      obtain ⟨r29, hr29, hM⟩ := bindE hM
      refine o_call (bs := []) (by decide) rfl rfl ((W_law01_works hr29).le .nil) ?_
      refine Oa (.b r29) ?_
      refine Ni ?_
      refine Ws ?_
      refine r_ret ?_
      refine r_blk_ret ?_
      refine r_then_ret ?_
      refine w_round_ret ?_
      refine r_blk_ret ?_
      refine w_goto_ret ?_
      refine w_end (x := .b r29) (f := fun r => .b r) (.inr rfl) ?_ (.refl _) (Option.some.inj hM) hS
      exact (res_one (res_tmp (x := .b r29) rfl))
     ·replace hM := ifF hM hb28
      refine Cf hb28 ?_
      refine r_skip ?_
      refine r_blk_normal ?_
      refine Ws ?_
      refine Rg 3 ?_
      refine Om (.i v24) ?_
      refine Oi (.i (w64 (v24 + 1))) ?_
      refine Oa (.i (w64 (v24 + 1))) ?_
      refine Ni ?_
      exact w_round (w64 (v24 + 1)) (Nat.lt_succ_self _) (.k (.k (.k (.k .nil)))) ⟨(hS.keep [] rfl).up (by omega), hM⟩
    ·replace hM := ifF hM hb25
     refine Cf hb25 ?_
     refine r_exit ?_
     refine r_then_exit ?_
     refine w_round_exit ?_
     refine r_blk_exit ?_
     exact w_goto () (.k (.k (.k .nil))) ⟨(hS.keep [] rfl).up (by omega), hM⟩
 ·refine Rg 30 ?_
  refine Olg (.agg (Wheel.cells a0)) ty_agg24 ?_
  obtain ⟨r30, hr30, hM⟩ := bindE hM
  refine o_call (bs := [.agg (Wheel.cells a0)]) (by decide) rfl rfl ((W_law01_isWheel hr30).le (.k .nil)) ?_
  refine o_not (e := r30) (by decide) rfl ?_
  refine Om (.b (!r30)) ?_
  rcases bft (!r30) with hb31 | hb31
  ·replace hM := ifT hM hb31
   refine On (want := false) hb31 ?_
   refine On (want := false) hb31 ?_
   refine On (want := false) hb31 ?_
   refine Pt (.b true) hb31 ?_
   refine Om (.b true) ?_
   refine Og ?_
   refine Og ?_
   refine Og ?_
   refine o_pickT (v := .b true) (e := true) (by decide) rfl rfl rfl ?_
   refine Om (.b true) ?_
   refine Og ?_
   refine Og ?_
   refine Og ?_
   refine Og ?_
   refine o_pickT (v := .b true) (e := true) (by decide) rfl rfl rfl ?_
   refine Om (.b true) ?_
   refine Og ?_
   refine Og ?_
   refine Og ?_
   refine o_pickT (v := .b true) (e := true) (by decide) rfl rfl rfl ?_
   refine Om (.b true) ?_
   refine Og ?_
   refine Og ?_
   refine Og ?_
   refine Og ?_
   refine o_pickT (v := .b true) (e := true) (by decide) rfl rfl rfl ?_
   refine Ni ?_
   exact w_goto true (.k (.k (.k (.k .nil)))) ⟨(hS.keep [] rfl).up (by omega), hM⟩
  ·replace hM := ifF hM hb31
   refine Oy (want := false) hb31 ?_
   refine Om (.sl .no 1 (a1.map cI)) ?_
   refine Oy (want := false) hb31 ?_
   refine o_len (n := a1.length) (by decide) rfl (List.length_map _) ty_isl22 ?_
   refine Oy (want := false) hb31 ?_
   refine Oi (.b (decide ((a1.length : Int) > 40))) ?_
   refine Pf (.b (decide ((a1.length : Int) > 40))) hb31 ?_
   refine Om (.b (decide ((a1.length : Int) > 40))) ?_
   rcases bft (decide ((a1.length : Int) > 40)) with hb32 | hb32
   ·replace hM := ifT hM hb32
    refine On (want := false) hb32 ?_
    refine On (want := false) hb32 ?_
    refine On (want := false) hb32 ?_
    refine Pt (.b true) hb32 ?_
    refine Om (.b true) ?_
    refine Og ?_
    refine Og ?_
    refine Og ?_
    refine Og ?_
    refine o_pickT (v := .b true) (e := true) (by decide) rfl rfl rfl ?_
    refine Om (.b true) ?_
    refine Og ?_
    refine Og ?_
    refine Og ?_
    refine o_pickT (v := .b true) (e := true) (by decide) rfl rfl rfl ?_
    refine Om (.b true) ?_
    refine Og ?_
    refine Og ?_
    refine Og ?_
    refine Og ?_
    refine o_pickT (v := .b true) (e := true) (by decide) rfl rfl rfl ?_
    refine Ni ?_
    exact w_goto true (.k (.k (.k (.k .nil)))) ⟨(hS.keep [] rfl).up (by omega), hM⟩
   ·replace hM := ifF hM hb32
    refine Oy (want := false) hb32 ?_
    refine Om (.sl .no 1 (a2.map cI)) ?_
    refine Oy (want := false) hb32 ?_
    refine o_len (n := a2.length) (by decide) rfl (List.length_map _) ty_isl22 ?_
    refine Oy (want := false) hb32 ?_
    refine Oi (.b (decide ((a2.length : Int) > 40))) ?_
    refine Pf (.b (decide ((a2.length : Int) > 40))) hb32 ?_
    refine Om (.b (decide ((a2.length : Int) > 40))) ?_
    rcases bft (decide ((a2.length : Int) > 40)) with hb33 | hb33
    ·replace hM := ifT hM hb33
     refine On (want := false) hb33 ?_
     refine On (want := false) hb33 ?_
     refine On (want := false) hb33 ?_
     refine On (want := false) hb33 ?_
     refine Pt (.b true) hb33 ?_
     refine Om (.b true) ?_
     refine Og ?_
     refine Og ?_
     refine Og ?_
     refine o_pickT (v := .b true) (e := true) (by decide) rfl rfl rfl ?_
     refine Om (.b true) ?_
     refine Og ?_
     refine Og ?_
     refine Og ?_
     refine Og ?_
     refine o_pickT (v := .b true) (e := true) (by decide) rfl rfl rfl ?_
     refine Ni ?_
     exact w_goto true (.k (.k (.k (.k .nil)))) ⟨(hS.keep [] rfl).up (by omega), hM⟩
    ·replace hM := ifF hM hb33
     refine Oy (want := false) hb33 ?_
     refine Olg (.agg (Wheel.cells a0)) ty_agg24 ?_
     refine Oy (want := false) hb33 ?_
     refine Om (.sl .no 1 (a1.map cI)) ?_
     refine Oy (want := false) hb33 ?_
     obtain ⟨r34, hr34, hM⟩ := bindE hM
     refine o_call (bs := [.agg (Wheel.cells a0), .sl .no 1 (a1.map cI)]) (by decide) rfl rfl ((W_ref01_IsPurse hr34).le (.k (.k .nil))) ?_
     refine Oy (want := false) hb33 ?_
     refine o_not (e := r34) (by decide) rfl ?_
     refine Pf (.b (!r34)) hb33 ?_
     refine Om (.b (!r34)) ?_
     rcases bft (!r34) with hb35 | hb35
     ·replace hM := ifT hM hb35
      refine On (want := false) hb35 ?_
      refine On (want := false) hb35 ?_
      refine On (want := false) hb35 ?_
      refine Pt (.b true) hb35 ?_
      refine Om (.b true) ?_
      refine Og ?_
      refine Og ?_
      refine Og ?_
      refine Og ?_
      refine o_pickT (v := .b true) (e := true) (by decide) rfl rfl rfl ?_
      refine Ni ?_
      exact w_goto true (.k (.k (.k (.k .nil)))) ⟨(hS.keep [] rfl).up (by omega), hM⟩
     ·replace hM := ifF hM hb35
      refine Oy (want := false) hb35 ?_
      refine Olg (.agg (Wheel.cells a0)) ty_agg24 ?_
      refine Oy (want := false) hb35 ?_
      refine Om (.sl .no 1 (a1.map cI)) ?_
      refine Oy (want := false) hb35 ?_
      obtain ⟨r36, hr36, hM⟩ := bindE hM
      refine o_call (bs := [.agg (Wheel.cells a0), .sl .no 1 (a1.map cI)]) (by decide) rfl rfl ((W_law01_rich hr36).le (.k (.k .nil))) ?_
      refine Pf (.b r36) hb35 ?_
      refine Om (.b r36) ?_
      rcases bft r36 with hb37 | hb37
      ·replace hM := ifT hM hb37
       refine On (want := false) hb37 ?_
       refine On (want := false) hb37 ?_
       refine On (want := false) hb37 ?_
       refine On (want := false) hb37 ?_
       refine Pt (.b true) hb37 ?_
       refine Ni ?_
       exact w_goto true (.k (.k (.k (.k .nil)))) ⟨(hS.keep [] rfl).up (by omega), hM⟩
      ·replace hM := ifF hM hb37
       refine Oy (want := false) hb37 ?_
       refine Olg (.agg (Wheel.cells a0)) ty_agg24 ?_
       refine Oy (want := false) hb37 ?_
       refine Om (.sl .no 1 (a2.map cI)) ?_
       refine Oy (want := false) hb37 ?_
       obtain ⟨r38, hr38, hM⟩ := bindE hM
       refine o_call (bs := [.agg (Wheel.cells a0), .sl .no 1 (a2.map cI)]) (by decide) rfl rfl ((W_ref01_IsPurse hr38).le (.k (.k .nil))) ?_
       refine Oy (want := false) hb37 ?_
       refine o_not (e := r38) (by decide) rfl ?_
       refine Pf (.b (!r38)) hb37 ?_
       refine Ni ?_
       exact w_goto (!r38) (.k (.k (.k (.k .nil)))) ⟨(hS.keep [] rfl).up (by omega), hM⟩
end Go.Proofs.Ytapcibbbmeomkaa
