/-
  The code returns what the functions say (printed by gen.py).
  Conditions: none.
-/
import Derived.Test.YtapcibbbmeomkaaWkCoinsCheap2
import Derived.Test.YtapcibbbmeomkaaSh
set_option linter.all false
namespace Go.Proofs.Ytapcibbbmeomkaa
open Go Go.AM Go.Law
set_option linter.unusedVariables false
set_option maxRecDepth 4000
set_option maxHeartbeats 4000000
theorem W_ref01_Rising {n : Nat} {a0 : List Int} {a1 : Int} {a2 : Int} {r : Bool} (hM : ref01_Rising n a0 a1 a2 = some r) : PureSat Try.prog 73 [.sl .no 1 (a0.map cI), .i a1, .i a2] (.b r) := by
 refine pure_of_wp mixed Try.func73 rfl (by decide) Try.ntmps73 (by simp) ?pure fun H0 g hf => ?_
 case pure => exact .v _
 rw [frame0_of]
 change wpA _ _ _ _ (Fr.of [(0, .sl .no 1 (a0.map cI)), (1, .i a1), (2, .i a2)]) H0 g
 have hS := St.start hf
 refine Sq ?_
 refine Rg 1 ?_
 refine Oa (.b false) ?_
 refine Ni ?_
 refine Ws ?_
 refine w_join (J := Unit) (fun j => []) (fun j H' g' => St (· < g) H0 [] H' g' ∧ ref01_Rising_j1 = some r) ?_ ?_
 ·rintro _ H g1 ⟨hS, hM⟩
  change wpA _ _ _ _ (Fr.of []) _ _
  replace hS : St (· < g) H0 [] H g1 := hS
  replace hM : ref01_Rising_j1 = some r := hM
  refine Sq ?_
  refine Rg 1 ?_
  refine Oa (.b true) ?_
  refine Ni ?_
  refine Ws ?_
  refine r_ret ?_
  refine w_end (x := .b true) (f := fun r => .b r) (.inr rfl) ?_ (.refl _) (Option.some.inj hM) hS
  exact (res_one (res_tmp (x := .b true) rfl))
 ·refine Sq ?_
  refine Rg 1 ?_
  refine Oa (.i 0) ?_
  refine Ni ?_
  refine Ws ?_
  refine r_block ?_
  refine w_loop (V := Int) (fun v => [(0, .sl .no 1 (a0.map cI)), (1, .i a1), (2, .i a2), (7, .i v)]) (fun v m2 H' g' => St (· < g) H0 [] H' g' ∧ ref01_Rising_l1 a0 a1 a2 m2 v = some r) (n := n) 0 (.k (.k (.k (.k .nil)))) ⟨(hS.keep [] rfl).up (by omega), hM⟩ ?_
  rintro v1 m2 H g2 ⟨hS, hM⟩
  obtain _ | m2 := m2
  ·exact nomatch (show none = some _ from hM)
  change wpA _ _ _ _ (Fr.of [(0, .sl .no 1 (a0.map cI)), (1, .i a1), (2, .i a2), (7, .i v1)]) _ _
  replace hS : St (· < g) H0 [] H g2 := hS
  replace hM : ref01_Rising_l1_b a0 a1 a2 (ref01_Rising_l1 a0 a1 a2 m2) v1 = some r := hM
  refine Sq ?_
  refine Sq ?_
  refine Rg 4 ?_
  refine Om (.i v1) ?_
  refine Om (.sl .no 1 (a0.map cI)) ?_
  refine o_len (n := a0.length) (by decide) rfl (List.length_map _) ty_isl22 ?_
  refine Oi (.b (decide (v1 < (a0.length : Int)))) ?_
  refine Ni ?_
  refine Ws ?_
  rcases bft (decide (v1 < (a0.length : Int))) with hb2 | hb2
  ·replace hM := ifT hM hb2
   refine Ct hb2 ?_
   refine r_skip ?_
   refine Ws ?_
   refine Sq ?_
   refine r_block ?_
   refine w_join (J := Bool) (fun j => [(0, .sl .no 1 (a0.map cI)), (1, .i a1), (2, .i a2), (7, .i v1), (37, .b j)]) (fun j H' g' => St (· < g) H0 [] H' g' ∧ ref01_Rising_j2 (ref01_Rising_l1 a0 a1 a2 m2) v1 j = some r) ?_ ?_
   ·rintro v3 H g3 ⟨hS, hM⟩
    change wpA _ _ _ _ (Fr.of [(0, .sl .no 1 (a0.map cI)), (1, .i a1), (2, .i a2), (7, .i v1), (37, .b v3)]) _ _
    replace hS : St (· < g) H0 [] H g3 := hS
    replace hM : ref01_Rising_j2 (ref01_Rising_l1 a0 a1 a2 m2) v1 v3 = some r := hM
    rcases bft v3 with hb4 | hb4
    ·replace hM := ifT hM hb4
     refine Ct hb4 ?_
     refine Sq ?_
     refine Rg 1 ?_
     refine Oa (.b false) ?_
     refine Ni ?_
     refine Ws ?_
     refine r_ret ?_
     refine r_blk_ret ?_
     refine r_then_ret ?_
     refine w_round_ret ?_
     refine r_blk_ret ?_
     refine w_goto_ret ?_
     refine w_end (x := .b false) (f := fun r => .b r) (.inr rfl) ?_ (.refl _) (Option.some.inj hM) hS
     exact (res_one (res_tmp (x := .b false) rfl))
    ·replace hM := ifF hM hb4
     refine Cf hb4 ?_
     refine r_skip ?_
     refine r_blk_normal ?_
     refine Ws ?_
     refine Rg 3 ?_
     refine Om (.i v1) ?_
     refine Oi (.i (w64 (v1 + 1))) ?_
     refine Oa (.i (w64 (v1 + 1))) ?_
     refine Ni ?_
     exact w_round (w64 (v1 + 1)) (Nat.lt_succ_self _) (.k (.k (.k (.k .nil)))) ⟨(hS.keep [] rfl).up (by omega), hM⟩
   ·have hS0 := hS
    refine r_draw (n := 24) rfl (by kernel_rfl) ?_
    refine Om (.sl .no 1 (a0.map cI)) ?_
    refine Om (.i v1) ?_
    obtain ⟨x5, hx5, hM⟩ := bindE hM
    refine o_index (xs := a0) (f := cI) (z := v1) (u := x5) (by decide) rfl rfl ty_es22 hx5 ?_
    refine Olp (.i x5) ty_agg3 ty_sc3 ?_
    refine Om (.i a1) ?_
    refine Om (.i a2) ?_
    obtain ⟨r6, hr6, hM⟩ := bindE hM
    refine o_call (bs := [.i x5, .i a1, .i a2]) (by decide) rfl rfl ((W_ref01_Within hr6).le (.k (.k (.k .nil)))) ?_
    refine o_not (e := r6) (by decide) rfl ?_
    refine Om (.b (!r6)) ?_
    rcases bft (!r6) with hb7 | hb7
    ·replace hM := ifT hM hb7
     refine On (want := false) hb7 ?_
     refine On (want := false) hb7 ?_
     refine On (want := false) hb7 ?_
     refine o_guardU (j := 11) (by decide) rfl ?_
     refine o_guardU (j := 11) (by decide) rfl ?_
     refine o_guardU (j := 11) (by decide) rfl ?_
     refine o_guardU (j := 11) (by decide) rfl ?_
     refine o_guardU (j := 11) (by decide) rfl ?_
     refine o_guardU (j := 11) (by decide) rfl ?_
     refine o_guardU (j := 11) (by decide) rfl ?_
     refine o_guardU (j := 11) (by decide) rfl ?_
     refine o_guardU (j := 11) (by decide) rfl ?_
     refine o_guardU (j := 11) (by decide) rfl ?_
     refine On (want := false) hb7 ?_
     refine Pt (.b true) hb7 ?_
     refine Ni ?_
     exact w_goto true (.k (.k (.k (.k (.k .nil))))) ⟨(hS.keep [] rfl).up (by omega), hM⟩
    ·replace hM := ifF hM hb7
     refine Oy (want := false) hb7 ?_
     refine Om (.i v1) ?_
     refine Oy (want := false) hb7 ?_
     refine Oi (.b (decide (v1 > 0))) ?_
     refine Oy (want := false) hb7 ?_
     refine Om (.b (decide (v1 > 0))) ?_
     rcases bft (decide (v1 > 0)) with hb8 | hb8
     ·replace hM := ifT hM hb8
      refine Oy (want := true) hb8 ?_
      refine Om (.sl .no 1 (a0.map cI)) ?_
      refine Oy (want := true) hb8 ?_
      refine Om (.i v1) ?_
      refine Oy (want := true) hb8 ?_
      obtain ⟨x9, hx9, hM⟩ := bindE hM
      refine o_index (xs := a0) (f := cI) (z := v1) (u := x9) (by decide) rfl rfl ty_es22 hx9 ?_
      refine Oy (want := true) hb8 ?_
      refine Olp (.i x9) ty_agg3 ty_sc3 ?_
      refine Oy (want := true) hb8 ?_
      refine Om (.sl .no 1 (a0.map cI)) ?_
      refine Oy (want := true) hb8 ?_
      refine Om (.i v1) ?_
      refine Oy (want := true) hb8 ?_
      refine Oi (.i (w64 (v1 - 1))) ?_
      refine Oy (want := true) hb8 ?_
      obtain ⟨x10, hx10, hM⟩ := bindE hM
      refine o_index (xs := a0) (f := cI) (z := (w64 (v1 - 1))) (u := x10) (by decide) rfl rfl ty_es22 hx10 ?_
      refine Oy (want := true) hb8 ?_
      refine Olp (.i x10) ty_agg3 ty_sc3 ?_
      refine Oy (want := true) hb8 ?_
      refine Oi (.b (decide (x9 ≤ x10))) ?_
      refine Oy (want := false) hb7 ?_
      refine Pt (.b (decide (x9 ≤ x10))) hb8 ?_
      refine Pf (.b (decide (x9 ≤ x10))) hb7 ?_
      refine Ni ?_
      exact w_goto (decide (x9 ≤ x10)) (.k (.k (.k (.k (.k .nil))))) ⟨(hS.keep [] rfl).up (by omega), hM⟩
     ·replace hM := ifF hM hb8
      refine On (want := true) hb8 ?_
      refine On (want := true) hb8 ?_
      refine On (want := true) hb8 ?_
      refine On (want := true) hb8 ?_
      refine On (want := true) hb8 ?_
      refine On (want := true) hb8 ?_
      refine On (want := true) hb8 ?_
      refine On (want := true) hb8 ?_
      refine On (want := true) hb8 ?_
      refine On (want := true) hb8 ?_
      refine Oy (want := false) hb7 ?_
      refine Pf (.b false) hb8 ?_
      refine Pf (.b false) hb7 ?_
      refine Ni ?_
      exact w_goto false (.k (.k (.k (.k (.k .nil))))) ⟨(hS.keep [] rfl).up (by omega), hM⟩
  ·replace hM := ifF hM hb2
   refine Cf hb2 ?_
   refine r_exit ?_
   refine r_then_exit ?_
   refine w_round_exit ?_
   refine r_blk_exit ?_
   exact w_goto () .nil ⟨(hS.keep [] rfl).up (by omega), hM⟩
theorem W_ref01_Check {n : Nat} {a0 : Wheel} {r : Int} (hM : ref01_Check n a0 = some r) : PureSat Try.prog 39 [.agg (Wheel.cells a0)] (.i r) := by
 refine pure_of_wp mixed Try.func39 rfl (by decide) Try.ntmps39 (by simp) ?pure fun H0 g hf => ?_
 case pure => exact .v _
 rw [frame0_of]
 change wpA _ _ _ _ (Fr.of [(0, .agg (Wheel.cells a0))]) H0 g
 have hS := St.start hf
 refine Sq ?_
 refine Rg 2 ?_
 refine o_box (v := .agg (Wheel.cells a0)) (cs := (Wheel.cells a0)) hS (by decide) rfl rfl (by omega) fun H hS => ?_
 refine Oa (.i 0) ?_
 refine Ni ?_
 refine w_iceE (L' := []) 0 1 hS rfl rfl rfl fun H hS => ?_
 refine Ws ?_
 refine Sq ?_
 refine w_join (J := Bool) (fun j => [(32, .b j)]) (fun j H' g' => St (· < g) H0 [] H' g' ∧ ref01_Check_j1 j = some r) ?_ ?_
 ·rintro v1 H g1 ⟨hS, hM⟩
  change wpA _ _ _ _ (Fr.of [(32, .b v1)]) _ _
  replace hS : St (· < g) H0 [] H g1 := hS
  replace hM : ref01_Check_j1 v1 = some r := hM
  rcases bft v1 with hb2 | hb2
  ·replace hM := ifT hM hb2
   refine Ct hb2 ?_
   refine Sq ?_
   refine Rg 1 ?_
   refine Oa (.i 10) ?_
   refine Ni ?_
   refine Ws ?_
   refine r_ret ?_
   refine r_then_ret ?_
   refine w_end (x := .i 10) (f := fun r => .i r) (.inr rfl) ?_ (.refl _) (Option.some.inj hM) hS
   exact (res_one (res_tmp (x := .i 10) rfl))
  ·replace hM := ifF hM hb2
   refine Cf hb2 ?_
   refine r_skip ?_
   refine Ws ?_
   refine Sq ?_
   refine Rg 1 ?_
   refine Oa (.i 0) ?_
   refine Ni ?_
   refine Ws ?_
   refine r_ret ?_
   refine w_end (x := .i 0) (f := fun r => .i r) (.inr rfl) ?_ (.refl _) (Option.some.inj hM) hS
   exact (res_one (res_tmp (x := .i 0) rfl))
 ·refine Rg 30 ?_
  refine Of ((Wheel.cells a0)) ty_fo24_0 ?_
  refine Olp (.i a0.Round) ty_agg3 ty_sc3 ?_
  obtain ⟨r3, hr3, hM⟩ := bindE hM
  refine o_call (bs := [.i a0.Round, .i 1, .i 200]) (by decide) rfl rfl ((W_ref01_Within hr3).le (.k (.k (.k .nil)))) ?_
  refine o_not (e := r3) (by decide) rfl ?_
  refine Om (.b (!r3)) ?_
  rcases bft (!r3) with hb4 | hb4
  ·replace hM := ifT hM hb4
   refine On (want := false) hb4 ?_
   refine On (want := false) hb4 ?_
   refine On (want := false) hb4 ?_
   refine On (want := false) hb4 ?_
   refine Pt (.b true) hb4 ?_
   refine Om (.b true) ?_
   refine Og ?_
   refine Og ?_
   refine Og ?_
   refine Og ?_
   refine Og ?_
   refine Og ?_
   refine o_pickT (v := .b true) (e := true) (by decide) rfl rfl rfl ?_
   refine Om (.b true) ?_
   refine Og ?_
   refine Og ?_
   refine Og ?_
   refine Og ?_
   refine o_pickT (v := .b true) (e := true) (by decide) rfl rfl rfl ?_
   refine Om (.b true) ?_
   refine Og ?_
   refine Og ?_
   refine Og ?_
   refine Og ?_
   refine o_pickT (v := .b true) (e := true) (by decide) rfl rfl rfl ?_
   refine Ni ?_
   exact w_goto true (.k .nil) ⟨(hS.keep [] rfl).up (by omega), hM⟩
  ·replace hM := ifF hM hb4
   refine Oy (want := false) hb4 ?_
   refine Of ((Wheel.cells a0)) ty_fo24_1 ?_
   refine Oy (want := false) hb4 ?_
   refine Olp (.sl .no 1 (a0.Notches.map cI)) ty_agg22 ty_sc22 ?_
   refine Oy (want := false) hb4 ?_
   refine o_len (n := a0.Notches.length) (by decide) rfl (List.length_map _) ty_isl22 ?_
   refine Oy (want := false) hb4 ?_
   refine Oi (.b (decide ((a0.Notches.length : Int) > 12))) ?_
   refine Pf (.b (decide ((a0.Notches.length : Int) > 12))) hb4 ?_
   refine Om (.b (decide ((a0.Notches.length : Int) > 12))) ?_
   rcases bft (decide ((a0.Notches.length : Int) > 12)) with hb5 | hb5
   ·replace hM := ifT hM hb5
    refine On (want := false) hb5 ?_
    refine On (want := false) hb5 ?_
    refine On (want := false) hb5 ?_
    refine On (want := false) hb5 ?_
    refine On (want := false) hb5 ?_
    refine On (want := false) hb5 ?_
    refine Pt (.b true) hb5 ?_
    refine Om (.b true) ?_
    refine Og ?_
    refine Og ?_
    refine Og ?_
    refine Og ?_
    refine o_pickT (v := .b true) (e := true) (by decide) rfl rfl rfl ?_
    refine Om (.b true) ?_
    refine Og ?_
    refine Og ?_
    refine Og ?_
    refine Og ?_
    refine o_pickT (v := .b true) (e := true) (by decide) rfl rfl rfl ?_
    refine Ni ?_
    exact w_goto true (.k .nil) ⟨(hS.keep [] rfl).up (by omega), hM⟩
   ·replace hM := ifF hM hb5
    refine Oy (want := false) hb5 ?_
    refine Of ((Wheel.cells a0)) ty_fo24_1 ?_
    refine Oy (want := false) hb5 ?_
    refine Olp (.sl .no 1 (a0.Notches.map cI)) ty_agg22 ty_sc22 ?_
    refine Oy (want := false) hb5 ?_
    refine Of ((Wheel.cells a0)) ty_fo24_0 ?_
    refine Oy (want := false) hb5 ?_
    refine Olp (.i a0.Round) ty_agg3 ty_sc3 ?_
    refine Oy (want := false) hb5 ?_
    obtain ⟨r6, hr6, hM⟩ := bindE hM
    refine o_call (bs := [.sl .no 1 (a0.Notches.map cI), .i 1, .i a0.Round]) (by decide) rfl rfl ((W_ref01_Rising hr6).le (.k (.k (.k .nil)))) ?_
    refine Oy (want := false) hb5 ?_
    refine o_not (e := r6) (by decide) rfl ?_
    refine Pf (.b (!r6)) hb5 ?_
    refine Om (.b (!r6)) ?_
    rcases bft (!r6) with hb7 | hb7
    ·replace hM := ifT hM hb7
     refine On (want := false) hb7 ?_
     refine On (want := false) hb7 ?_
     refine On (want := false) hb7 ?_
     refine On (want := false) hb7 ?_
     refine Pt (.b true) hb7 ?_
     refine Om (.b true) ?_
     refine Og ?_
     refine Og ?_
     refine Og ?_
     refine Og ?_
     refine o_pickT (v := .b true) (e := true) (by decide) rfl rfl rfl ?_
     refine Ni ?_
     exact w_goto true (.k .nil) ⟨(hS.keep [] rfl).up (by omega), hM⟩
    ·replace hM := ifF hM hb7
     refine Oy (want := false) hb7 ?_
     refine Of ((Wheel.cells a0)) ty_fo24_2 ?_
     refine Oy (want := false) hb7 ?_
     refine Olp (.sl .no 1 (a0.Coins.map cI)) ty_agg22 ty_sc22 ?_
     refine Oy (want := false) hb7 ?_
     refine o_len (n := a0.Coins.length) (by decide) rfl (List.length_map _) ty_isl22 ?_
     refine Oy (want := false) hb7 ?_
     refine Oi (.b (decide ((a0.Coins.length : Int) > 4))) ?_
     refine Pf (.b (decide ((a0.Coins.length : Int) > 4))) hb7 ?_
     refine Om (.b (decide ((a0.Coins.length : Int) > 4))) ?_
     rcases bft (decide ((a0.Coins.length : Int) > 4)) with hb8 | hb8
     ·replace hM := ifT hM hb8
      refine On (want := false) hb8 ?_
      refine On (want := false) hb8 ?_
      refine On (want := false) hb8 ?_
      refine On (want := false) hb8 ?_
      refine Pt (.b true) hb8 ?_
      refine Ni ?_
      exact w_goto true (.k .nil) ⟨(hS.keep [] rfl).up (by omega), hM⟩
     ·replace hM := ifF hM hb8
      refine Oy (want := false) hb8 ?_
      refine Of ((Wheel.cells a0)) ty_fo24_2 ?_
      refine Oy (want := false) hb8 ?_
      refine Olp (.sl .no 1 (a0.Coins.map cI)) ty_agg22 ty_sc22 ?_
      refine Oy (want := false) hb8 ?_
      obtain ⟨r9, hr9, hM⟩ := bindE hM
      refine o_call (bs := [.sl .no 1 (a0.Coins.map cI), .i 1, .i 100]) (by decide) rfl rfl ((W_ref01_Rising hr9).le (.k (.k (.k .nil)))) ?_
      refine Oy (want := false) hb8 ?_
      refine o_not (e := r9) (by decide) rfl ?_
      refine Pf (.b (!r9)) hb8 ?_
      refine Ni ?_
      exact w_goto (!r9) (.k .nil) ⟨(hS.keep [] rfl).up (by omega), hM⟩
theorem W_law01_isWheel {n : Nat} {a0 : Wheel} {r : Bool} (hM : law01_isWheel n a0 = some r) : PureSat Try.prog 22 [.agg (Wheel.cells a0)] (.b r) := by
 refine pure_of_wp mixed Try.func22 rfl (by decide) Try.ntmps22 (by simp) ?pure fun H0 g hf => ?_
 case pure => exact .v _
 rw [frame0_of]
 change wpA _ _ _ _ (Fr.of [(0, .agg (Wheel.cells a0))]) H0 g
 have hS := St.start hf
 refine Sq ?_
 refine Rg 2 ?_
 refine o_box (v := .agg (Wheel.cells a0)) (cs := (Wheel.cells a0)) hS (by decide) rfl rfl (by omega) fun H hS => ?_
 refine Oa (.b false) ?_
 refine Ni ?_
 refine w_iceE (L' := []) 0 1 hS rfl rfl rfl fun H hS => ?_
 refine Ws ?_
 refine w_join (J := Bool) (fun j => [(2, .b j)]) (fun j H' g' => St (· < g) H0 [] H' g' ∧ law01_isWheel_j1 j = some r) ?_ ?_
 ·rintro v1 H g1 ⟨hS, hM⟩
  change wpA _ _ _ _ (Fr.of [(2, .b v1)]) _ _
  replace hS : St (· < g) H0 [] H g1 := hS
  replace hM : law01_isWheel_j1 v1 = some r := hM
  refine r_ret ?_
  refine w_end (x := .b v1) (f := fun r => .b r) (.inr rfl) ?_ (.refl _) (Option.some.inj hM) hS
  exact (res_one (res_tmp (x := .b v1) rfl))
 ·refine Rg 9 ?_
  refine Olg (.agg (Wheel.cells a0)) ty_agg24 ?_
  obtain ⟨r2, hr2, hM⟩ := bindE hM
  refine o_call (bs := [.agg (Wheel.cells a0)]) (by decide) rfl rfl ((W_law01_far hr2).le (.k .nil)) ?_
  refine o_not (e := r2) (by decide) rfl ?_
  refine Om (.b (!r2)) ?_
  rcases bft (!r2) with hb3 | hb3
  ·replace hM := ifT hM hb3
   refine Oy (want := true) hb3 ?_
   refine Olg (.agg (Wheel.cells a0)) ty_agg24 ?_
   refine Oy (want := true) hb3 ?_
   obtain ⟨r4, hr4, hM⟩ := bindE hM
   refine o_call (bs := [.agg (Wheel.cells a0)]) (by decide) rfl rfl ((W_ref01_Check hr4).le (.k .nil)) ?_
   refine Oy (want := true) hb3 ?_
   refine Oi (.b (r4 == 0)) ?_
   refine Pt (.b (r4 == 0)) hb3 ?_
   refine Oa (.b (r4 == 0)) ?_
   refine Ni ?_
   exact w_goto (r4 == 0) (.k .nil) ⟨(hS.keep [] rfl).up (by omega), hM⟩
  ·replace hM := ifF hM hb3
   refine On (want := true) hb3 ?_
   refine On (want := true) hb3 ?_
   refine On (want := true) hb3 ?_
   refine Pf (.b false) hb3 ?_
   refine Oa (.b false) ?_
   refine Ni ?_
   exact w_goto false (.k .nil) ⟨(hS.keep [] rfl).up (by omega), hM⟩
theorem W_ref01_IsPurse {n : Nat} {a0 : Wheel} {a1 : List Int} {r : Bool} (hM : ref01_IsPurse n a0 a1 = some r) : PureSat Try.prog 23 [.agg (Wheel.cells a0), .sl .no 1 (a1.map cI)] (.b r) := by
 refine pure_of_wp mixed Try.func23 rfl (by decide) Try.ntmps23 (by simp) ?pure fun H0 g hf => ?_
 case pure => exact .v _
 rw [frame0_of]
 change wpA _ _ _ _ (Fr.of [(0, .agg (Wheel.cells a0)), (1, .sl .no 1 (a1.map cI))]) H0 g
 have hS := St.start hf
 refine Sq ?_
 refine Rg 2 ?_
 refine o_box (v := .agg (Wheel.cells a0)) (cs := (Wheel.cells a0)) hS (by decide) rfl rfl (by omega) fun H hS => ?_
 refine Oa (.b false) ?_
 refine Ni ?_
 refine w_iceE (L' := []) 0 2 hS rfl rfl rfl fun H hS => ?_
 refine Ws ?_
 refine Sq ?_
 refine Sq ?_
 refine Rg 6 ?_
 refine Om (.sl .no 1 (a1.map cI)) ?_
 refine o_len (n := a1.length) (by decide) rfl (List.length_map _) ty_isl22 ?_
 refine Of ((Wheel.cells a0)) ty_fo24_2 ?_
 refine Olp (.sl .no 1 (a0.Coins.map cI)) ty_agg22 ty_sc22 ?_
 refine o_len (n := a0.Coins.length) (by decide) rfl (List.length_map _) ty_isl22 ?_
 refine Oi (.b ((a1.length : Int) != (a0.Coins.length : Int))) ?_
 refine Ni ?_
 refine Ws ?_
 rcases bft ((a1.length : Int) != (a0.Coins.length : Int)) with hb1 | hb1
 ·replace hM := ifT hM hb1
  refine Ct hb1 ?_
  refine Sq ?_
  refine Rg 1 ?_
  refine Oa (.b false) ?_
  refine Ni ?_
  refine Ws ?_
  refine r_ret ?_
  refine r_then_ret ?_
  refine w_end (x := .b false) (f := fun r => .b r) (.inr rfl) ?_ (.refl _) (Option.some.inj hM) hS
  exact (res_one (res_tmp (x := .b false) rfl))
 ·replace hM := ifF hM hb1
  refine Cf hb1 ?_
  refine r_skip ?_
  refine Ws ?_
  refine Sq ?_
  refine Rg 1 ?_
  refine Oa (.i 0) ?_
  refine Ni ?_
  refine Ws ?_
  refine w_join (J := Int) (fun j => [(5, .i j)]) (fun j H' g' => St (· < g) H0 [] H' g' ∧ ref01_IsPurse_j1 j = some r) ?_ ?_
  ·rintro v2 H g1 ⟨hS, hM⟩
   change wpA _ _ _ _ (Fr.of [(5, .i v2)]) _ _
   replace hS : St (· < g) H0 [] H g1 := hS
   replace hM : ref01_IsPurse_j1 v2 = some r := hM
   refine Sq ?_
   refine Rg 3 ?_
   refine Om (.i v2) ?_
   refine Oi (.b (decide (v2 ≤ 12))) ?_
   refine Oa (.b (decide (v2 ≤ 12))) ?_
   refine Ni ?_
   refine Ws ?_
   refine r_ret ?_
   refine w_end (x := .b (decide (v2 ≤ 12))) (f := fun r => .b r) (.inr rfl) ?_ (.refl _) (Option.some.inj hM) hS
   exact (res_one (res_tmp (x := .b (decide (v2 ≤ 12))) rfl))
  ·refine Sq ?_
   refine Rg 1 ?_
   refine Oa (.i 0) ?_
   refine Ni ?_
   refine Ws ?_
   refine r_block ?_
   refine w_loop (V := Int × Int) (fun v => [(1, .sl .no 1 (a1.map cI)), (5, .i v.1), (6, .i v.2)]) (fun v m2 H' g' => St (· < g) H0 [] H' g' ∧ ref01_IsPurse_l1 a1 m2 v.1 v.2 = some r) (n := n) (0, 0) (.k (.k (.k .nil))) ⟨(hS.keep [] rfl).up (by omega), hM⟩ ?_
   rintro ⟨v3, v4⟩ m2 H g2 ⟨hS, hM⟩
   obtain _ | m2 := m2
   ·exact nomatch (show none = some _ from hM)
   change wpA _ _ _ _ (Fr.of [(1, .sl .no 1 (a1.map cI)), (5, .i v3), (6, .i v4)]) _ _
   replace hS : St (· < g) H0 [] H g2 := hS
   replace hM : ref01_IsPurse_l1_b a1 (ref01_IsPurse_l1 a1 m2) v3 v4 = some r := hM
   refine Sq ?_
   refine Sq ?_
   refine Rg 4 ?_
   refine Om (.i v4) ?_
   refine Om (.sl .no 1 (a1.map cI)) ?_
   refine o_len (n := a1.length) (by decide) rfl (List.length_map _) ty_isl22 ?_
   refine Oi (.b (decide (v4 < (a1.length : Int)))) ?_
   refine Ni ?_
   refine Ws ?_
   rcases bft (decide (v4 < (a1.length : Int))) with hb5 | hb5
   ·replace hM := ifT hM hb5
    refine Ct hb5 ?_
    refine r_skip ?_
    refine Ws ?_
    refine Sq ?_
    refine r_block ?_
    refine Sq ?_
    refine Sq ?_
    refine Rg 6 ?_
    refine Om (.sl .no 1 (a1.map cI)) ?_
    refine Om (.i v4) ?_
    obtain ⟨x6, hx6, hM⟩ := bindE hM
    refine o_index (xs := a1) (f := cI) (z := v4) (u := x6) (by decide) rfl rfl ty_es22 hx6 ?_
    refine Olp (.i x6) ty_agg3 ty_sc3 ?_
    obtain ⟨r7, hr7, hM⟩ := bindE hM
    refine o_call (bs := [.i x6, .i 0, .i 12]) (by decide) rfl rfl ((W_ref01_Within hr7).le (.k (.k (.k .nil)))) ?_
    refine o_not (e := r7) (by decide) rfl ?_
    refine Ni ?_
    refine Ws ?_
    rcases bft (!r7) with hb8 | hb8
    ·replace hM := ifT hM hb8
     refine Ct hb8 ?_
     refine Sq ?_
     refine Rg 1 ?_
     refine Oa (.b false) ?_
     refine Ni ?_
     refine Ws ?_
     refine r_ret ?_
     refine r_then_ret ?_
     refine r_blk_ret ?_
     refine r_then_ret ?_
     refine w_round_ret ?_
     refine r_blk_ret ?_
     refine w_goto_ret ?_
     refine w_end (x := .b false) (f := fun r => .b r) (.inr rfl) ?_ (.refl _) (Option.some.inj hM) hS
     exact (res_one (res_tmp (x := .b false) rfl))
    ·replace hM := ifF hM hb8
     refine Cf hb8 ?_
     refine r_skip ?_
     refine Ws ?_
     refine Rg 7 ?_
     refine Om (.i v3) ?_
     refine Om (.sl .no 1 (a1.map cI)) ?_
     refine Om (.i v4) ?_
     obtain ⟨x9, hx9, hM⟩ := bindE hM
     refine o_index (xs := a1) (f := cI) (z := v4) (u := x9) (by decide) rfl rfl ty_es22 hx9 ?_
     refine Olp (.i x9) ty_agg3 ty_sc3 ?_
     refine Oi (.i (w64 (v3 + x9))) ?_
     refine Oa (.i (w64 (v3 + x9))) ?_
     refine Ni ?_
     refine r_blk_normal ?_
     refine Ws ?_
     refine Rg 3 ?_
     refine Om (.i v4) ?_
     refine Oi (.i (w64 (v4 + 1))) ?_
     refine Oa (.i (w64 (v4 + 1))) ?_
     refine Ni ?_
     exact w_round (w64 (v3 + x9), w64 (v4 + 1)) (Nat.lt_succ_self _) (.k (.k (.k .nil))) ⟨(hS.keep [] rfl).up (by omega), hM⟩
   ·replace hM := ifF hM hb5
    refine Cf hb5 ?_
    refine r_exit ?_
    refine r_then_exit ?_
    refine w_round_exit ?_
    refine r_blk_exit ?_
    exact w_goto v3 (.k .nil) ⟨(hS.keep [] rfl).up (by omega), hM⟩
theorem W_law01_rich {n : Nat} {a0 : Wheel} {a1 : List Int} {r : Bool} (hM : law01_rich n a0 a1 = some r) : PureSat Try.prog 24 [.agg (Wheel.cells a0), .sl .no 1 (a1.map cI)] (.b r) := by
 refine pure_of_wp mixed Try.func24 rfl (by decide) Try.ntmps24 (by simp) ?pure fun H0 g hf => ?_
 case pure => exact .v _
 rw [frame0_of]
 change wpA _ _ _ _ (Fr.of [(0, .agg (Wheel.cells a0)), (1, .sl .no 1 (a1.map cI))]) H0 g
 have hS := St.start hf
 refine Sq ?_
 refine Rg 2 ?_
 refine o_box (v := .agg (Wheel.cells a0)) (cs := (Wheel.cells a0)) hS (by decide) rfl rfl (by omega) fun H hS => ?_
 refine Oa (.b false) ?_
 refine Ni ?_
 refine w_iceE (L' := []) 0 2 hS rfl rfl rfl fun H hS => ?_
 refine Ws ?_
 refine Sq ?_
 refine Sq ?_
 refine Rg 3 ?_
 refine Om (.sl .no 1 (a1.map cI)) ?_
 refine o_len (n := a1.length) (by decide) rfl (List.length_map _) ty_isl22 ?_
 refine Oi (.b (decide ((a1.length : Int) > 40))) ?_
 refine Ni ?_
 refine Ws ?_
 rcases bft (decide ((a1.length : Int) > 40)) with hb1 | hb1
 ·replace hM := ifT hM hb1
  refine Ct hb1 ?_
  refine Sq ?_
  refine Rg 1 ?_
  refine Oa (.b true) ?_
  refine Ni ?_
  refine Ws ?_
  refine r_ret ?_
  refine r_then_ret ?_
  refine w_end (x := .b true) (f := fun r => .b r) (.inr rfl) ?_ (.refl _) (Option.some.inj hM) hS
  exact (res_one (res_tmp (x := .b true) rfl))
 ·replace hM := ifF hM hb1
  refine Cf hb1 ?_
  refine r_skip ?_
  refine Ws ?_
  refine Sq ?_
  refine w_join (J := Bool) (fun j => [(1, .sl .no 1 (a1.map cI)), (18, .b j)]) (fun j H' g' => St (· < g) H0 [] H' g' ∧ law01_rich_j1 n a1 j = some r) ?_ ?_
  ·rintro v2 H g1 ⟨hS, hM⟩
   change wpA _ _ _ _ (Fr.of [(1, .sl .no 1 (a1.map cI)), (18, .b v2)]) _ _
   replace hS : St (· < g) H0 [] H g1 := hS
   replace hM : law01_rich_j1 n a1 v2 = some r := hM
   rcases bft v2 with hb3 | hb3
   ·replace hM := ifT hM hb3
    refine Ct hb3 ?_
    refine Sq ?_
    refine Rg 1 ?_
    refine Oa (.b false) ?_
    refine Ni ?_
    refine Ws ?_
    refine r_ret ?_
    refine r_then_ret ?_
    refine w_end (x := .b false) (f := fun r => .b r) (.inr rfl) ?_ (.refl _) (Option.some.inj hM) hS
    exact (res_one (res_tmp (x := .b false) rfl))
   ·replace hM := ifF hM hb3
    refine Cf hb3 ?_
    refine r_skip ?_
    refine Ws ?_
    refine Sq ?_
    refine Rg 1 ?_
    refine Oa (.i 0) ?_
    refine Ni ?_
    refine Ws ?_
    refine w_join (J := Int) (fun j => [(5, .i j)]) (fun j H' g' => St (· < g) H0 [] H' g' ∧ law01_rich_j2 j = some r) ?_ ?_
    ·rintro v4 H g2 ⟨hS, hM⟩
     change wpA _ _ _ _ (Fr.of [(5, .i v4)]) _ _
     replace hS : St (· < g) H0 [] H g2 := hS
     replace hM : law01_rich_j2 v4 = some r := hM
     refine Sq ?_
     refine Rg 3 ?_
     refine Om (.i v4) ?_
     refine Oi (.b (decide (v4 > 6))) ?_
     refine Oa (.b (decide (v4 > 6))) ?_
     refine Ni ?_
     refine Ws ?_
     refine r_ret ?_
     refine w_end (x := .b (decide (v4 > 6))) (f := fun r => .b r) (.inr rfl) ?_ (.refl _) (Option.some.inj hM) hS
     exact (res_one (res_tmp (x := .b (decide (v4 > 6))) rfl))
    ·refine Sq ?_
     refine Rg 1 ?_
     refine Oa (.i 0) ?_
     refine Ni ?_
     refine Ws ?_
     refine r_block ?_
     refine w_loop (V := Int × Int) (fun v => [(1, .sl .no 1 (a1.map cI)), (5, .i v.1), (6, .i v.2)]) (fun v m3 H' g' => St (· < g) H0 [] H' g' ∧ law01_rich_l1 a1 m3 v.1 v.2 = some r) (n := n) (0, 0) (.k (.k (.k .nil))) ⟨(hS.keep [] rfl).up (by omega), hM⟩ ?_
     rintro ⟨v5, v6⟩ m3 H g3 ⟨hS, hM⟩
     obtain _ | m3 := m3
     ·exact nomatch (show none = some _ from hM)
     change wpA _ _ _ _ (Fr.of [(1, .sl .no 1 (a1.map cI)), (5, .i v5), (6, .i v6)]) _ _
     replace hS : St (· < g) H0 [] H g3 := hS
     replace hM : law01_rich_l1_b a1 (law01_rich_l1 a1 m3) v5 v6 = some r := hM
     refine Sq ?_
     refine Sq ?_
     refine Rg 4 ?_
     refine Om (.i v6) ?_
     refine Om (.sl .no 1 (a1.map cI)) ?_
     refine o_len (n := a1.length) (by decide) rfl (List.length_map _) ty_isl22 ?_
     refine Oi (.b (decide (v6 < (a1.length : Int)))) ?_
     refine Ni ?_
     refine Ws ?_
     rcases bft (decide (v6 < (a1.length : Int))) with hb7 | hb7
     ·replace hM := ifT hM hb7
      refine Ct hb7 ?_
      refine r_skip ?_
      refine Ws ?_
      refine Sq ?_
      refine r_block ?_
      refine Rg 7 ?_
      refine Om (.i v5) ?_
      refine Om (.sl .no 1 (a1.map cI)) ?_
      refine Om (.i v6) ?_
      obtain ⟨x8, hx8, hM⟩ := bindE hM
      refine o_index (xs := a1) (f := cI) (z := v6) (u := x8) (by decide) rfl rfl ty_es22 hx8 ?_
      refine Olp (.i x8) ty_agg3 ty_sc3 ?_
      refine Oi (.i (w64 (v5 + x8))) ?_
      refine Oa (.i (w64 (v5 + x8))) ?_
      refine Ni ?_
      refine r_blk_normal ?_
      refine Ws ?_
      refine Rg 3 ?_
      refine Om (.i v6) ?_
      refine Oi (.i (w64 (v6 + 1))) ?_
      refine Oa (.i (w64 (v6 + 1))) ?_
      refine Ni ?_
      exact w_round (w64 (v5 + x8), w64 (v6 + 1)) (Nat.lt_succ_self _) (.k (.k (.k .nil))) ⟨(hS.keep [] rfl).up (by omega), hM⟩
     ·replace hM := ifF hM hb7
      refine Cf hb7 ?_
      refine r_exit ?_
      refine r_then_exit ?_
      refine w_round_exit ?_
      refine r_blk_exit ?_
      exact w_goto v5 (.k .nil) ⟨(hS.keep [] rfl).up (by omega), hM⟩
  ·refine Rg 9 ?_
   refine Olg (.agg (Wheel.cells a0)) ty_agg24 ?_
   obtain ⟨r9, hr9, hM⟩ := bindE hM
   refine o_call (bs := [.agg (Wheel.cells a0)]) (by decide) rfl rfl ((W_ref01_Check hr9).le (.k .nil)) ?_
   refine Oi (.b (r9 != 0)) ?_
   refine Om (.b (r9 != 0)) ?_
   rcases bft (r9 != 0) with hb10 | hb10
   ·replace hM := ifT hM hb10
    refine On (want := false) hb10 ?_
    refine On (want := false) hb10 ?_
    refine On (want := false) hb10 ?_
    refine On (want := false) hb10 ?_
    refine Pt (.b true) hb10 ?_
    refine Ni ?_
    exact w_goto true (.k (.k .nil)) ⟨(hS.keep [] rfl).up (by omega), hM⟩
   ·replace hM := ifF hM hb10
    refine Oy (want := false) hb10 ?_
    refine Olg (.agg (Wheel.cells a0)) ty_agg24 ?_
    refine Oy (want := false) hb10 ?_
    refine Om (.sl .no 1 (a1.map cI)) ?_
    refine Oy (want := false) hb10 ?_
    obtain ⟨r11, hr11, hM⟩ := bindE hM
    refine o_call (bs := [.agg (Wheel.cells a0), .sl .no 1 (a1.map cI)]) (by decide) rfl rfl ((W_ref01_IsPurse hr11).le (.k (.k .nil))) ?_
    refine Oy (want := false) hb10 ?_
    refine o_not (e := r11) (by decide) rfl ?_
    refine Pf (.b (!r11)) hb10 ?_
    refine Ni ?_
    exact w_goto (!r11) (.k (.k .nil)) ⟨(hS.keep [] rfl).up (by omega), hM⟩
theorem W_law01_joined {a0 : List Int} {a1 : List Int} {r : (List Int)} (hM : law01_joined a0 a1 = some r) : PureSat Try.prog 26 [.sl .no 1 (a0.map cI), .sl .no 1 (a1.map cI)] (.sl .no 1 (r.map cI)) := by
 refine pure_of_wp mixed Try.func26 rfl (by decide) Try.ntmps26 (by simp) ?pure fun H0 g hf => ?_
 case pure => exact .sl _ _ (pures_map (fun x => (pl_cons (.v _) pl_nil)))
 rw [frame0_of]
 change wpA _ _ _ _ (Fr.of [(0, .sl .no 1 (a0.map cI)), (1, .sl .no 1 (a1.map cI))]) H0 g
 have hS := St.start hf
 refine Sq ?_
 refine Rg 1 ?_
 refine Oa (.sl .nil 0 []) ?_
 refine Ni ?_
 refine Ws ?_
 refine Sq ?_
 refine Rg 6 ?_
 refine o_buildSlice (es := []) hS (by decide) ty_es22 ty_el22 rfl ty_ef22 rfl (by decide) (by omega) fun H hS => ?_
 refine Om (.sl .no 1 (a0.map cI)) ?_
 obtain ⟨l1, hl1, hM⟩ := bindE hM
 refine o_append (xs := ([] : List Int)) (ys := a0) (zs := l1) (f := cI) (L' := [(g + 1 + 0, .row 3 l1.length)]) 0 hS (by decide) rfl rfl rfl rfl .no ty_es22 ty_el22 ty_ef22 hl1 rfl fun H hS => ?_
 refine Om (.sl .no 1 (a1.map cI)) ?_
 obtain ⟨l2, hl2, hM⟩ := bindE hM
 refine o_append (xs := l1) (ys := a1) (zs := l2) (f := cI) (L' := [(g + 1 + 0, .row 3 l2.length)]) 0 hS (by decide) rfl rfl rfl rfl .no ty_es22 ty_el22 ty_ef22 hl2 rfl fun H hS => ?_
 refine Oa (.sl (.id (g + 1 + 0)) 1 (l2.map cI)) ?_
 refine Ni ?_
 refine w_next [(4, .sl (.id (g + 1 + 0)) 1 (l2.map cI))] (.k .nil) ?_
 refine r_ret ?_
 refine w_end (x := .sl (.id (g + 1 + 0)) 1 (l2.map cI)) (f := fun r => .sl .no 1 (r.map cI)) (.inr rfl) ?_ (.sl _ _ _) (Option.some.inj hM) hS
 exact (res_one (res_tmp (x := .sl (.id (g + 1 + 0)) 1 (l2.map cI)) rfl))
theorem W_law01_isKnown {a0 : Int} {r : Bool} (hM : law01_isKnown a0 = some r) : PureSat Try.prog 28 [.i a0] (.b r) := by
 refine pure_of_wp mixed Try.func28 rfl (by decide) Try.ntmps28 (by simp) ?pure fun H0 g hf => ?_
 case pure => exact .v _
 rw [frame0_of]
 change wpA _ _ _ _ (Fr.of [(0, .i a0)]) H0 g
 have hS := St.start hf
 refine Sq ?_
 refine Rg 1 ?_
 refine Oa (.b false) ?_
 refine Ni ?_
 refine Ws ?_
 refine w_join (J := Bool) (fun j => [(2, .b j)]) (fun j H' g' => St (· < g) H0 [] H' g' ∧ law01_isKnown_j1 j = some r) ?_ ?_
 ·rintro v1 H g1 ⟨hS, hM⟩
  change wpA _ _ _ _ (Fr.of [(2, .b v1)]) _ _
  replace hS : St (· < g) H0 [] H g1 := hS
  replace hM : law01_isKnown_j1 v1 = some r := hM
  refine r_ret ?_
  refine w_end (x := .b v1) (f := fun r => .b r) (.inr rfl) ?_ (.refl _) (Option.some.inj hM) hS
  exact (res_one (res_tmp (x := .b v1) rfl))
 ·refine Rg 7 ?_
  refine Om (.i a0) ?_
  refine Oi (.b (a0 == 0)) ?_
  refine Om (.b (a0 == 0)) ?_
  rcases bft (a0 == 0) with hb2 | hb2
  ·replace hM := ifT hM hb2
   refine On (want := false) hb2 ?_
   refine On (want := false) hb2 ?_
   refine Pt (.b true) hb2 ?_
   refine Oa (.b true) ?_
   refine Ni ?_
   exact w_goto true (.k .nil) ⟨(hS.keep [] rfl).up (by omega), hM⟩
  ·replace hM := ifF hM hb2
   refine Oy (want := false) hb2 ?_
   refine Om (.i a0) ?_
   refine Oy (want := false) hb2 ?_
   refine Oi (.b (a0 == 3)) ?_
   refine Pf (.b (a0 == 3)) hb2 ?_
   refine Oa (.b (a0 == 3)) ?_
   refine Ni ?_
   exact w_goto (a0 == 3) (.k .nil) ⟨(hS.keep [] rfl).up (by omega), hM⟩
theorem W_ref01_PurseWorth {n : Nat} {a0 : Wheel} {a1 : List Int} {r : Int} (hM : ref01_PurseWorth n a0 a1 = some r) : PureSat Try.prog 29 [.agg (Wheel.cells a0), .sl .no 1 (a1.map cI)] (.i r) := by
 refine pure_of_wp mixed Try.func29 rfl (by decide) Try.ntmps29 (by simp) ?pure fun H0 g hf => ?_
 case pure => exact .v _
 rw [frame0_of]
 change wpA _ _ _ _ (Fr.of [(0, .agg (Wheel.cells a0)), (1, .sl .no 1 (a1.map cI))]) H0 g
 have hS := St.start hf
 refine Sq ?_
 refine Rg 2 ?_
 refine o_box (v := .agg (Wheel.cells a0)) (cs := (Wheel.cells a0)) hS (by decide) rfl rfl (by omega) fun H hS => ?_
 refine Oa (.i 0) ?_
 refine Ni ?_
 refine w_iceE (L' := []) 0 2 hS rfl rfl rfl fun H hS => ?_
 refine Ws ?_
 refine Sq ?_
 refine Rg 1 ?_
 refine Oa (.i 0) ?_
 refine Ni ?_
 refine Ws ?_
 refine w_join (J := Int) (fun j => [(5, .i j)]) (fun j H' g' => St (· < g) H0 [] H' g' ∧ ref01_PurseWorth_j1 j = some r) ?_ ?_
 ·rintro v1 H g1 ⟨hS, hM⟩
  change wpA _ _ _ _ (Fr.of [(5, .i v1)]) _ _
  replace hS : St (· < g) H0 [] H g1 := hS
  replace hM : ref01_PurseWorth_j1 v1 = some r := hM
  refine Sq ?_
  refine Rg 2 ?_
  refine Om (.i v1) ?_
  refine Oa (.i v1) ?_
  refine Ni ?_
  refine Ws ?_
  refine r_ret ?_
  refine w_end (x := .i v1) (f := fun r => .i r) (.inr rfl) ?_ (.refl _) (Option.some.inj hM) hS
  exact (res_one (res_tmp (x := .i v1) rfl))
 ·refine Sq ?_
  refine Rg 1 ?_
  refine Oa (.i 0) ?_
  refine Ni ?_
  refine Ws ?_
  refine r_block ?_
  refine w_loop (V := Int × Int) (fun v => [(1, .sl .no 1 (a1.map cI)), (2, .ep (Wheel.cells a0)), (5, .i v.1), (6, .i v.2)]) (fun v m2 H' g' => St (· < g) H0 [] H' g' ∧ ref01_PurseWorth_l1 a0 a1 m2 v.1 v.2 = some r) (n := n) (0, 0) (.k (.k (.k (.k .nil)))) ⟨(hS.keep [] rfl).up (by omega), hM⟩ ?_
  rintro ⟨v2, v3⟩ m2 H g2 ⟨hS, hM⟩
  obtain _ | m2 := m2
  ·exact nomatch (show none = some _ from hM)
  change wpA _ _ _ _ (Fr.of [(1, .sl .no 1 (a1.map cI)), (2, .ep (Wheel.cells a0)), (5, .i v2), (6, .i v3)]) _ _
  replace hS : St (· < g) H0 [] H g2 := hS
  replace hM : ref01_PurseWorth_l1_b a0 a1 (ref01_PurseWorth_l1 a0 a1 m2) v2 v3 = some r := hM
  refine Sq ?_
  refine Sq ?_
  refine Rg 4 ?_
  refine Om (.i v3) ?_
  refine Om (.sl .no 1 (a1.map cI)) ?_
  refine o_len (n := a1.length) (by decide) rfl (List.length_map _) ty_isl22 ?_
  refine Oi (.b (decide (v3 < (a1.length : Int)))) ?_
  refine Ni ?_
  refine Ws ?_
  rcases bft (decide (v3 < (a1.length : Int))) with hb4 | hb4
  ·replace hM := ifT hM hb4
   refine Ct hb4 ?_
   refine r_skip ?_
   refine Ws ?_
   refine Sq ?_
   refine r_block ?_
   have hS0 := hS
   refine r_draw (n := 13) rfl (by kernel_rfl) ?_
   refine Om (.i v2) ?_
   refine Om (.sl .no 1 (a1.map cI)) ?_
   refine Om (.i v3) ?_
   obtain ⟨x5, hx5, hM⟩ := bindE hM
   refine o_index (xs := a1) (f := cI) (z := v3) (u := x5) (by decide) rfl rfl ty_es22 hx5 ?_
   refine Olp (.i x5) ty_agg3 ty_sc3 ?_
   refine Of ((Wheel.cells a0)) ty_fo24_2 ?_
   refine Olp (.sl .no 1 (a0.Coins.map cI)) ty_agg22 ty_sc22 ?_
   refine Om (.i v3) ?_
   obtain ⟨x6, hx6, hM⟩ := bindE hM
   refine o_index (xs := a0.Coins) (f := cI) (z := v3) (u := x6) (by decide) rfl rfl ty_es22 hx6 ?_
   refine Olp (.i x6) ty_agg3 ty_sc3 ?_
   refine Oi (.i (w64 (x5 * x6))) ?_
   refine Oi (.i (w64 (v2 + (w64 (x5 * x6))))) ?_
   refine Oa (.i (w64 (v2 + (w64 (x5 * x6))))) ?_
   refine Ni ?_
   refine r_blk_normal ?_
   refine Ws ?_
   refine Rg 3 ?_
   refine Om (.i v3) ?_
   refine Oi (.i (w64 (v3 + 1))) ?_
   refine Oa (.i (w64 (v3 + 1))) ?_
   refine Ni ?_
   exact w_round (w64 (v2 + (w64 (x5 * x6))), w64 (v3 + 1)) (Nat.lt_succ_self _) (.k (.k (.k (.k .nil)))) ⟨(hS.keep [] rfl).up (by omega), hM⟩
  ·replace hM := ifF hM hb4
   refine Cf hb4 ?_
   refine r_exit ?_
   refine r_then_exit ?_
   refine w_round_exit ?_
   refine r_blk_exit ?_
   exact w_goto v2 (.k .nil) ⟨(hS.keep [] rfl).up (by omega), hM⟩
theorem W_law01_CoinsCheap {n : Nat} {a0 : Wheel} {a1 : List Int} {a2 : Two} {r : Bool} (hM : law01_CoinsCheap n a0 a1 a2 = some r) : PureSat Try.prog 5 [.agg (Wheel.cells a0), .sl .no 1 (a1.map cI), .agg [.i a2.A, .i a2.B]] (.b r) := by
 refine pure_of_wp mixed Try.func5 rfl (by decide) Try.ntmps5 (by simp) ?pure fun H0 g hf => ?_
 case pure => exact .v _
 rw [frame0_of]
 change wpA _ _ _ _ (Fr.of [(0, .agg (Wheel.cells a0)), (1, .sl .no 1 (a1.map cI)), (2, .agg [.i a2.A, .i a2.B])]) H0 g
 have hS := St.start hf
 refine Sq ?_
 refine Rg 3 ?_
 refine o_box (v := .agg (Wheel.cells a0)) (cs := (Wheel.cells a0)) hS (by decide) rfl rfl (by omega) fun H hS => ?_
 refine o_box (v := .agg [.i a2.A, .i a2.B]) (cs := [.i a2.A, .i a2.B]) hS (by decide) rfl rfl (by omega) fun H hS => ?_
 refine Oa (.b false) ?_
 refine Ni ?_
 refine w_iceE (L' := [(g + 1, .cells [.i a2.A, .i a2.B])]) 1 3 hS rfl rfl rfl fun H hS => ?_
 refine w_iceE (L' := []) 0 5 hS rfl rfl rfl fun H hS => ?_
 refine Ws ?_
 refine Sq ?_
 have hS0 := hS
 refine r_draw (n := 6) rfl (by kernel_rfl) ?_
 refine Of ([.i a2.A, .i a2.B]) ty_fo42_0 ?_
 refine Olp (.i a2.A) ty_agg3 ty_sc3 ?_
 refine Of ([.i a2.A, .i a2.B]) ty_fo42_1 ?_
 refine Olp (.i a2.B) ty_agg3 ty_sc3 ?_
 refine Oa (.i a2.A) ?_
 refine Oa (.i a2.B) ?_
 refine Ni ?_
 refine Ws ?_
 refine Sq ?_
 refine w_join (J := Bool) (fun j => [(1, .sl .no 1 (a1.map cI)), (3, .ep (Wheel.cells a0)), (7, .i a2.A), (8, .i a2.B), (61, .b j)]) (fun j H' g' => St (· < g) H0 [] H' g' ∧ law01_CoinsCheap_j1 n a0 a1 a2 j = some r) ?_ ?_
 ·rintro v1 H g1 ⟨hS, hM⟩
  change wpA _ _ _ _ (Fr.of [(1, .sl .no 1 (a1.map cI)), (3, .ep (Wheel.cells a0)), (7, .i a2.A), (8, .i a2.B), (61, .b v1)]) _ _
  replace hS : St (· < g) H0 [] H g1 := hS
  replace hM : law01_CoinsCheap_j1 n a0 a1 a2 v1 = some r := hM
  rcases bft v1 with hb2 | hb2
  ·replace hM := ifT hM hb2
   refine Ct hb2 ?_
   refine Sq ?_
   refine Rg 2 ?_
   obtain ⟨r3, hr3, hM⟩ := bindE hM
   refine o_call (bs := []) (by decide) rfl rfl ((W_law01_works hr3).le .nil) ?_
   refine Oa (.b r3) ?_
   refine Ni ?_
   refine Ws ?_
   refine r_ret ?_
   refine r_then_ret ?_
   refine w_end (x := .b r3) (f := fun r => .b r) (.inr rfl) ?_ (.refl _) (Option.some.inj hM) hS
   exact (res_one (res_tmp (x := .b r3) rfl))
  ·replace hM := ifF hM hb2
   refine Cf hb2 ?_
   refine r_skip ?_
   refine Ws ?_
   refine Sq ?_
   have hS0 := hS
   refine r_draw (n := 9) rfl (by kernel_rfl) ?_
   refine Olg (.agg (Wheel.cells a0)) ty_agg24 ?_
   refine Om (.sl .no 1 (a1.map cI)) ?_
   obtain ⟨r4, hr4, hM⟩ := bindE hM
   refine o_call (bs := [.sl .no 1 (a1.map cI), .sl .nil 0 []]) (by decide) rfl rfl ((W_law01_joined hr4).le (.k (.cons (.sl0 .nil 1 0) .nil))) ?_
   obtain ⟨r5, hr5, hM⟩ := bindE hM
   refine o_call (bs := [.agg (Wheel.cells a0), .sl .no 1 (r4.map cI)]) (by decide) rfl rfl ((W_coins_Most hr5).le (.k (.k .nil))) ?_
   refine Om (.tup [.i r5.1, .i r5.2]) ?_
   refine Ox (.i r5.1) ?_
   refine Ox (.i r5.2) ?_
   refine Oa (.i r5.1) ?_
   refine Oa (.i r5.2) ?_
   refine Ni ?_
   refine Ws ?_
   refine Sq ?_
   refine Rg 8 ?_
   refine Olg (.agg (Wheel.cells a0)) ty_agg24 ?_
   refine Om (.i a2.A) ?_
   obtain ⟨r6, hr6, hM⟩ := bindE hM
   refine o_call (bs := [.agg (Wheel.cells a0), .i a2.A]) (by decide) rfl rfl ((W_coins_Cheapest hr6).le (.k (.k .nil))) ?_
   refine Om (.tup [.i r6.1, .i r6.2]) ?_
   refine Ox (.i r6.1) ?_
   refine Ox (.i r6.2) ?_
   refine Oa (.i r6.1) ?_
   refine Oa (.i r6.2) ?_
   refine Ni ?_
   refine Ws ?_
   refine Sq ?_
   refine Rg 8 ?_
   refine Olg (.agg (Wheel.cells a0)) ty_agg24 ?_
   refine Om (.i a2.B) ?_
   obtain ⟨r7, hr7, hM⟩ := bindE hM
   refine o_call (bs := [.agg (Wheel.cells a0), .i a2.B]) (by decide) rfl rfl ((W_coins_Cheapest hr7).le (.k (.k .nil))) ?_
   refine Om (.tup [.i r7.1, .i r7.2]) ?_
   refine Ox (.i r7.1) ?_
   refine Ox (.i r7.2) ?_
   refine Oa (.i r7.1) ?_
   refine Oa (.i r7.2) ?_
   refine Ni ?_
   refine Ws ?_
   refine Sq ?_
   refine Rg 10 ?_
   refine Olg (.agg (Wheel.cells a0)) ty_agg24 ?_
   refine Om (.i a2.A) ?_
   refine Om (.i a2.B) ?_
   refine Oi (.i (w64 (a2.A + a2.B))) ?_
   obtain ⟨r8, hr8, hM⟩ := bindE hM
   refine o_call (bs := [.agg (Wheel.cells a0), .i (w64 (a2.A + a2.B))]) (by decide) rfl rfl ((W_coins_Cheapest hr8).le (.k (.k .nil))) ?_
   refine Om (.tup [.i r8.1, .i r8.2]) ?_
   refine Ox (.i r8.1) ?_
   refine Ox (.i r8.2) ?_
   refine Oa (.i r8.1) ?_
   refine Oa (.i r8.2) ?_
   refine Ni ?_
   refine Ws ?_
   refine Sq ?_
   refine w_join (J := Bool) (fun j => [(1, .sl .no 1 (a1.map cI)), (3, .ep (Wheel.cells a0)), (7, .i a2.A), (9, .i r5.1), (11, .i r6.1), (12, .i r6.2), (13, .i r7.1), (15, .i r8.1), (106, .b j)]) (fun j H' g' => St (· < g) H0 [] H' g' ∧ law01_CoinsCheap_j2 n a0 a1 a2 r5 r6 r7 r8 j = some r) ?_ ?_
   ·rintro v9 H g2 ⟨hS, hM⟩
    change wpA _ _ _ _ (Fr.of [(1, .sl .no 1 (a1.map cI)), (3, .ep (Wheel.cells a0)), (7, .i a2.A), (9, .i r5.1), (11, .i r6.1), (12, .i r6.2), (13, .i r7.1), (15, .i r8.1), (106, .b v9)]) _ _
    replace hS : St (· < g) H0 [] H g2 := hS
    replace hM : law01_CoinsCheap_j2 n a0 a1 a2 r5 r6 r7 r8 v9 = some r := hM
    rcases bft v9 with hb10 | hb10
    ·replace hM := ifT hM hb10
     refine Ct hb10 ?_
     refine Sq ?_
     refine Rg 1 ?_
     refine Oa (.b false) ?_
     refine Ni ?_
     refine Ws ?_
     refine r_ret ?_
     refine r_then_ret ?_
     refine w_end (x := .b false) (f := fun r => .b r) (.inr rfl) ?_ (.refl _) (Option.some.inj hM) hS
     exact (res_one (res_tmp (x := .b false) rfl))
    ·replace hM := ifF hM hb10
     refine Cf hb10 ?_
     refine r_skip ?_
     refine Ws ?_
     refine Sq ?_
     refine Sq ?_
     refine Rg 2 ?_
     refine Om (.i r6.2) ?_
     refine Oi (.b (r6.2 != 0)) ?_
     refine Ni ?_
     refine Ws ?_
     rcases bft (r6.2 != 0) with hb11 | hb11
     ·replace hM := ifT hM hb11
      refine Ct hb11 ?_
      refine w_join (J := Bool) (fun j => [(6, .b j)]) (fun j H' g' => St (· < g) H0 [] H' g' ∧ law01_CoinsCheap_j3 j = some r) ?_ ?_
      ·rintro v12 H g3 ⟨hS, hM⟩
       change wpA _ _ _ _ (Fr.of [(6, .b v12)]) _ _
       replace hS : St (· < g) H0 [] H g3 := hS
       replace hM : law01_CoinsCheap_j3 v12 = some r := hM
       refine r_ret ?_
       refine r_then_ret ?_
       refine w_end (x := .b v12) (f := fun r => .b r) (.inr rfl) ?_ (.refl _) (Option.some.inj hM) hS
       exact (res_one (res_tmp (x := .b v12) rfl))
      ·refine Rg 6 ?_
       refine Om (.i r5.1) ?_
       refine Oi (.b (r5.1 == 0)) ?_
       refine Om (.b (r5.1 == 0)) ?_
       rcases bft (r5.1 == 0) with hb13 | hb13
       ·replace hM := ifT hM hb13
        refine Oy (want := true) hb13 ?_
        obtain ⟨r14, hr14, hM⟩ := bindE hM
        refine o_call (bs := []) (by decide) rfl rfl ((W_law01_works hr14).le .nil) ?_
        refine Pt (.b r14) hb13 ?_
        refine Oa (.b r14) ?_
        refine Ni ?_
        exact w_goto r14 (.k .nil) ⟨(hS.keep [] rfl).up (by omega), hM⟩
       ·replace hM := ifF hM hb13
        refine On (want := true) hb13 ?_
        refine Pf (.b false) hb13 ?_
        refine Oa (.b false) ?_
        refine Ni ?_
        exact w_goto false (.k .nil) ⟨(hS.keep [] rfl).up (by omega), hM⟩
     ·replace hM := ifF hM hb11
      refine Cf hb11 ?_
      refine r_skip ?_
      refine Ws ?_
      refine w_join (J := Bool) (fun j => [(6, .b j)]) (fun j H' g' => St (· < g) H0 [] H' g' ∧ law01_CoinsCheap_j4 j = some r) ?_ ?_
      ·rintro v15 H g4 ⟨hS, hM⟩
       change wpA _ _ _ _ (Fr.of [(6, .b v15)]) _ _
       replace hS : St (· < g) H0 [] H g4 := hS
       replace hM : law01_CoinsCheap_j4 v15 = some r := hM
       refine r_ret ?_
       refine w_end (x := .b v15) (f := fun r => .b r) (.inr rfl) ?_ (.refl _) (Option.some.inj hM) hS
       exact (res_one (res_tmp (x := .b v15) rfl))
      ·refine Rg 44 ?_
       refine Om (.i r6.1) ?_
       refine Oi (.b (decide (r6.1 ≥ 1))) ?_
       refine Om (.b (decide (r6.1 ≥ 1))) ?_
       rcases bft (decide (r6.1 ≥ 1)) with hb16 | hb16
       ·replace hM := ifT hM hb16
        refine Oy (want := true) hb16 ?_
        refine Om (.i r7.1) ?_
        refine Oy (want := true) hb16 ?_
        refine Oi (.b (decide (r7.1 ≥ 1))) ?_
        refine Pt (.b (decide (r7.1 ≥ 1))) hb16 ?_
        refine Om (.b (decide (r7.1 ≥ 1))) ?_
        rcases bft (decide (r7.1 ≥ 1)) with hb17 | hb17
        ·replace hM := ifT hM hb17
         refine Oy (want := true) hb17 ?_
         refine Om (.i r6.1) ?_
         refine Oy (want := true) hb17 ?_
         refine Oi (.b (decide (r6.1 ≤ 1048576))) ?_
         refine Pt (.b (decide (r6.1 ≤ 1048576))) hb17 ?_
         refine Om (.b (decide (r6.1 ≤ 1048576))) ?_
         rcases bft (decide (r6.1 ≤ 1048576)) with hb18 | hb18
         ·replace hM := ifT hM hb18
          refine Oy (want := true) hb18 ?_
          refine Om (.i r7.1) ?_
          refine Oy (want := true) hb18 ?_
          refine Oi (.b (decide (r7.1 ≤ 1048576))) ?_
          refine Pt (.b (decide (r7.1 ≤ 1048576))) hb18 ?_
          refine Om (.b (decide (r7.1 ≤ 1048576))) ?_
          rcases bft (decide (r7.1 ≤ 1048576)) with hb19 | hb19
          ·replace hM := ifT hM hb19
           refine Oy (want := true) hb19 ?_
           refine Om (.i r5.1) ?_
           refine Oy (want := true) hb19 ?_
           refine Om (.i a2.A) ?_
           refine Oy (want := true) hb19 ?_
           refine Oi (.b (decide (r5.1 < a2.A))) ?_
           refine Oy (want := true) hb19 ?_
           refine Om (.b (decide (r5.1 < a2.A))) ?_
           rcases bft (decide (r5.1 < a2.A)) with hb20 | hb20
           ·replace hM := ifT hM hb20
            refine On (want := false) hb20 ?_
            refine On (want := false) hb20 ?_
            refine On (want := false) hb20 ?_
            refine On (want := false) hb20 ?_
            refine On (want := false) hb20 ?_
            refine Oy (want := true) hb19 ?_
            refine Pt (.b true) hb20 ?_
            refine Pt (.b true) hb19 ?_
            refine Om (.b true) ?_
            refine Oz ?_
            refine Om (.i r8.1) ?_
            refine Oz ?_
            refine Om (.i r6.1) ?_
            refine Oz ?_
            refine Om (.i r7.1) ?_
            refine Oz ?_
            refine o_max (v := .i (max r6.1 r7.1)) (by decide) rfl ?_
            refine Oz ?_
            refine Oi (.b (decide (r8.1 ≥ (max r6.1 r7.1)))) ?_
            refine o_pickT (v := .b (decide (r8.1 ≥ (max r6.1 r7.1)))) (e := true) (by decide) rfl rfl rfl ?_
            refine Om (.b (decide (r8.1 ≥ (max r6.1 r7.1)))) ?_
            rcases bft (decide (r8.1 ≥ (max r6.1 r7.1))) with hb21 | hb21
            ·replace hM := ifT hM hb21
             refine Oy (want := true) hb21 ?_
             refine Om (.i r8.1) ?_
             refine Oy (want := true) hb21 ?_
             refine Om (.i r6.1) ?_
             refine Oy (want := true) hb21 ?_
             refine Om (.i r7.1) ?_
             refine Oy (want := true) hb21 ?_
             refine Oi (.i (w64 (r6.1 + r7.1))) ?_
             refine Oy (want := true) hb21 ?_
             refine Oi (.b (decide (r8.1 ≤ (w64 (r6.1 + r7.1))))) ?_
             refine Pt (.b (decide (r8.1 ≤ (w64 (r6.1 + r7.1))))) hb21 ?_
             refine Om (.b (decide (r8.1 ≤ (w64 (r6.1 + r7.1))))) ?_
             rcases bft (decide (r8.1 ≤ (w64 (r6.1 + r7.1)))) with hb22 | hb22
             ·replace hM := ifT hM hb22
              refine Oy (want := true) hb22 ?_
              obtain ⟨r23, hr23, hM⟩ := bindE hM
              refine o_call (bs := []) (by decide) rfl rfl ((W_law01_works hr23).le .nil) ?_
              refine Pt (.b r23) hb22 ?_
              refine Oa (.b r23) ?_
              refine Ni ?_
              exact w_goto r23 (.k .nil) ⟨(hS.keep [] rfl).up (by omega), hM⟩
             ·replace hM := ifF hM hb22
              refine On (want := true) hb22 ?_
              refine Pf (.b false) hb22 ?_
              refine Oa (.b false) ?_
              refine Ni ?_
              exact w_goto false (.k .nil) ⟨(hS.keep [] rfl).up (by omega), hM⟩
            ·replace hM := ifF hM hb21
             refine On (want := true) hb21 ?_
             refine On (want := true) hb21 ?_
             refine On (want := true) hb21 ?_
             refine On (want := true) hb21 ?_
             refine On (want := true) hb21 ?_
             refine Pf (.b false) hb21 ?_
             refine Om (.b false) ?_
             refine Og ?_
             refine o_pickF (v := .b false) (e := false) (by decide) rfl rfl rfl ?_
             refine Oa (.b false) ?_
             refine Ni ?_
             exact w_goto false (.k .nil) ⟨(hS.keep [] rfl).up (by omega), hM⟩
           ·replace hM := ifF hM hb20
            refine Oy (want := false) hb20 ?_
            refine Olg (.agg (Wheel.cells a0)) ty_agg24 ?_
            refine Oy (want := false) hb20 ?_
            refine Om (.sl .no 1 (a1.map cI)) ?_
            refine Oy (want := false) hb20 ?_
            obtain ⟨r24, hr24, hM⟩ := bindE hM
            refine o_call (bs := [.agg (Wheel.cells a0), .sl .no 1 (a1.map cI)]) (by decide) rfl rfl ((W_ref01_PurseWorth hr24).le (.k (.k .nil))) ?_
            refine Oy (want := false) hb20 ?_
            refine Om (.i r6.1) ?_
            refine Oy (want := false) hb20 ?_
            refine Oi (.b (decide (r24 ≥ r6.1))) ?_
            refine Oy (want := true) hb19 ?_
            refine Pf (.b (decide (r24 ≥ r6.1))) hb20 ?_
            refine Pt (.b (decide (r24 ≥ r6.1))) hb19 ?_
            refine Om (.b (decide (r24 ≥ r6.1))) ?_
            rcases bft (decide (r24 ≥ r6.1)) with hb25 | hb25
            ·replace hM := ifT hM hb25
             refine Oy (want := true) hb25 ?_
             refine Om (.i r8.1) ?_
             refine Oy (want := true) hb25 ?_
             refine Om (.i r6.1) ?_
             refine Oy (want := true) hb25 ?_
             refine Om (.i r7.1) ?_
             refine Oy (want := true) hb25 ?_
             refine o_max (v := .i (max r6.1 r7.1)) (by decide) rfl ?_
             refine Oy (want := true) hb25 ?_
             refine Oi (.b (decide (r8.1 ≥ (max r6.1 r7.1)))) ?_
             refine Pt (.b (decide (r8.1 ≥ (max r6.1 r7.1)))) hb25 ?_
             refine Om (.b (decide (r8.1 ≥ (max r6.1 r7.1)))) ?_
             rcases bft (decide (r8.1 ≥ (max r6.1 r7.1))) with hb26 | hb26
             ·replace hM := ifT hM hb26
              refine Oy (want := true) hb26 ?_
              refine Om (.i r8.1) ?_
              refine Oy (want := true) hb26 ?_
              refine Om (.i r6.1) ?_
              refine Oy (want := true) hb26 ?_
              refine Om (.i r7.1) ?_
              refine Oy (want := true) hb26 ?_
              refine Oi (.i (w64 (r6.1 + r7.1))) ?_
              refine Oy (want := true) hb26 ?_
              refine Oi (.b (decide (r8.1 ≤ (w64 (r6.1 + r7.1))))) ?_
              refine Pt (.b (decide (r8.1 ≤ (w64 (r6.1 + r7.1))))) hb26 ?_
              refine Om (.b (decide (r8.1 ≤ (w64 (r6.1 + r7.1))))) ?_
              rcases bft (decide (r8.1 ≤ (w64 (r6.1 + r7.1)))) with hb27 | hb27
              ·replace hM := ifT hM hb27
               refine Oy (want := true) hb27 ?_
               obtain ⟨r28, hr28, hM⟩ := bindE hM
               refine o_call (bs := []) (by decide) rfl rfl ((W_law01_works hr28).le .nil) ?_
               refine Pt (.b r28) hb27 ?_
               refine Oa (.b r28) ?_
               refine Ni ?_
               exact w_goto r28 (.k .nil) ⟨(hS.keep [] rfl).up (by omega), hM⟩
              ·replace hM := ifF hM hb27
               refine On (want := true) hb27 ?_
               refine Pf (.b false) hb27 ?_
               refine Oa (.b false) ?_
               refine Ni ?_
               exact w_goto false (.k .nil) ⟨(hS.keep [] rfl).up (by omega), hM⟩
             ·replace hM := ifF hM hb26
              refine On (want := true) hb26 ?_
              refine On (want := true) hb26 ?_
              refine On (want := true) hb26 ?_
              refine On (want := true) hb26 ?_
              refine On (want := true) hb26 ?_
              refine Pf (.b false) hb26 ?_
              refine Om (.b false) ?_
              refine Og ?_
              refine o_pickF (v := .b false) (e := false) (by decide) rfl rfl rfl ?_
              refine Oa (.b false) ?_
              refine Ni ?_
              exact w_goto false (.k .nil) ⟨(hS.keep [] rfl).up (by omega), hM⟩
            ·replace hM := ifF hM hb25
             refine On (want := true) hb25 ?_
             refine On (want := true) hb25 ?_
             refine On (want := true) hb25 ?_
             refine On (want := true) hb25 ?_
             refine On (want := true) hb25 ?_
             refine Pf (.b false) hb25 ?_
             refine Om (.b false) ?_
             refine Og ?_
             refine Og ?_
             refine Og ?_
             refine Og ?_
             refine Og ?_
             refine o_pickF (v := .b false) (e := false) (by decide) rfl rfl rfl ?_
             refine Om (.b false) ?_
             refine Og ?_
             refine o_pickF (v := .b false) (e := false) (by decide) rfl rfl rfl ?_
             refine Oa (.b false) ?_
             refine Ni ?_
             exact w_goto false (.k .nil) ⟨(hS.keep [] rfl).up (by omega), hM⟩
          ·replace hM := ifF hM hb19
           refine On (want := true) hb19 ?_
           refine On (want := true) hb19 ?_
           refine On (want := true) hb19 ?_
           refine On (want := true) hb19 ?_
           refine o_guardU (j := 18) (by decide) rfl ?_
           refine o_guardU (j := 18) (by decide) rfl ?_
           refine o_guardU (j := 18) (by decide) rfl ?_
           refine o_guardU (j := 18) (by decide) rfl ?_
           refine o_guardU (j := 18) (by decide) rfl ?_
           refine On (want := true) hb19 ?_
           refine Pf (.b false) hb19 ?_
           refine Om (.b false) ?_
           refine Og ?_
           refine Og ?_
           refine Og ?_
           refine Og ?_
           refine Og ?_
           refine o_pickF (v := .b false) (e := false) (by decide) rfl rfl rfl ?_
           refine Om (.b false) ?_
           refine Og ?_
           refine Og ?_
           refine Og ?_
           refine Og ?_
           refine Og ?_
           refine o_pickF (v := .b false) (e := false) (by decide) rfl rfl rfl ?_
           refine Om (.b false) ?_
           refine Og ?_
           refine o_pickF (v := .b false) (e := false) (by decide) rfl rfl rfl ?_
           refine Oa (.b false) ?_
           refine Ni ?_
           exact w_goto false (.k .nil) ⟨(hS.keep [] rfl).up (by omega), hM⟩
         ·replace hM := ifF hM hb18
          refine On (want := true) hb18 ?_
          refine On (want := true) hb18 ?_
          refine Pf (.b false) hb18 ?_
          refine Om (.b false) ?_
          refine Og ?_
          refine Og ?_
          refine Og ?_
          refine Og ?_
          refine o_guardU (j := 18) (by decide) rfl ?_
          refine o_guardU (j := 18) (by decide) rfl ?_
          refine o_guardU (j := 18) (by decide) rfl ?_
          refine o_guardU (j := 18) (by decide) rfl ?_
          refine o_guardU (j := 18) (by decide) rfl ?_
          refine Og ?_
          refine o_pickF (v := .b false) (e := false) (by decide) rfl rfl rfl ?_
          refine Om (.b false) ?_
          refine Og ?_
          refine Og ?_
          refine Og ?_
          refine Og ?_
          refine Og ?_
          refine o_pickF (v := .b false) (e := false) (by decide) rfl rfl rfl ?_
          refine Om (.b false) ?_
          refine Og ?_
          refine Og ?_
          refine Og ?_
          refine Og ?_
          refine Og ?_
          refine o_pickF (v := .b false) (e := false) (by decide) rfl rfl rfl ?_
          refine Om (.b false) ?_
          refine Og ?_
          refine o_pickF (v := .b false) (e := false) (by decide) rfl rfl rfl ?_
          refine Oa (.b false) ?_
          refine Ni ?_
          exact w_goto false (.k .nil) ⟨(hS.keep [] rfl).up (by omega), hM⟩
        ·replace hM := ifF hM hb17
         refine On (want := true) hb17 ?_
         refine On (want := true) hb17 ?_
         refine Pf (.b false) hb17 ?_
         refine Om (.b false) ?_
         refine Og ?_
         refine Og ?_
         refine o_pickF (v := .b false) (e := false) (by decide) rfl rfl rfl ?_
         refine Om (.b false) ?_
         refine Og ?_
         refine Og ?_
         refine Og ?_
         refine Og ?_
         refine o_guardU (j := 18) (by decide) rfl ?_
         refine o_guardU (j := 18) (by decide) rfl ?_
         refine o_guardU (j := 18) (by decide) rfl ?_
         refine o_guardU (j := 18) (by decide) rfl ?_
         refine o_guardU (j := 18) (by decide) rfl ?_
         refine Og ?_
         refine o_pickF (v := .b false) (e := false) (by decide) rfl rfl rfl ?_
         refine Om (.b false) ?_
         refine Og ?_
         refine Og ?_
         refine Og ?_
         refine Og ?_
         refine Og ?_
         refine o_pickF (v := .b false) (e := false) (by decide) rfl rfl rfl ?_
         refine Om (.b false) ?_
         refine Og ?_
         refine Og ?_
         refine Og ?_
         refine Og ?_
         refine Og ?_
         refine o_pickF (v := .b false) (e := false) (by decide) rfl rfl rfl ?_
         refine Om (.b false) ?_
         refine Og ?_
         refine o_pickF (v := .b false) (e := false) (by decide) rfl rfl rfl ?_
         refine Oa (.b false) ?_
         refine Ni ?_
         exact w_goto false (.k .nil) ⟨(hS.keep [] rfl).up (by omega), hM⟩
       ·replace hM := ifF hM hb16
        refine On (want := true) hb16 ?_
        refine On (want := true) hb16 ?_
        refine Pf (.b false) hb16 ?_
        refine Om (.b false) ?_
        refine Og ?_
        refine Og ?_
        refine o_pickF (v := .b false) (e := false) (by decide) rfl rfl rfl ?_
        refine Om (.b false) ?_
        refine Og ?_
        refine Og ?_
        refine o_pickF (v := .b false) (e := false) (by decide) rfl rfl rfl ?_
        refine Om (.b false) ?_
        refine Og ?_
        refine Og ?_
        refine Og ?_
        refine Og ?_
        refine o_guardU (j := 18) (by decide) rfl ?_
        refine o_guardU (j := 18) (by decide) rfl ?_
        refine o_guardU (j := 18) (by decide) rfl ?_
        refine o_guardU (j := 18) (by decide) rfl ?_
        refine o_guardU (j := 18) (by decide) rfl ?_
        refine Og ?_
        refine o_pickF (v := .b false) (e := false) (by decide) rfl rfl rfl ?_
        refine Om (.b false) ?_
        refine Og ?_
        refine Og ?_
        refine Og ?_
        refine Og ?_
        refine Og ?_
        refine o_pickF (v := .b false) (e := false) (by decide) rfl rfl rfl ?_
        refine Om (.b false) ?_
        refine Og ?_
        refine Og ?_
        refine Og ?_
        refine Og ?_
        refine Og ?_
        refine o_pickF (v := .b false) (e := false) (by decide) rfl rfl rfl ?_
        refine Om (.b false) ?_
        refine Og ?_
        refine o_pickF (v := .b false) (e := false) (by decide) rfl rfl rfl ?_
        refine Oa (.b false) ?_
        refine Ni ?_
        exact w_goto false (.k .nil) ⟨(hS.keep [] rfl).up (by omega), hM⟩
   ·refine Rg 17 ?_
    refine Om (.i r5.2) ?_
    refine Oi (.b (r5.2 != 0)) ?_
    refine Om (.b (r5.2 != 0)) ?_
    rcases bft (r5.2 != 0) with hb29 | hb29
    ·replace hM := ifT hM hb29
     refine On (want := false) hb29 ?_
     refine On (want := false) hb29 ?_
     refine On (want := false) hb29 ?_
     refine Pt (.b true) hb29 ?_
     refine Om (.b true) ?_
     refine Og ?_
     refine Og ?_
     refine Og ?_
     refine o_pickT (v := .b true) (e := true) (by decide) rfl rfl rfl ?_
     refine Om (.b true) ?_
     refine Og ?_
     refine Og ?_
     refine Og ?_
     refine o_pickT (v := .b true) (e := true) (by decide) rfl rfl rfl ?_
     refine Ni ?_
     exact w_goto true (.k (.k (.k (.k (.k (.k (.k (.k (.k .nil))))))))) ⟨(hS.keep [] rfl).up (by omega), hM⟩
    ·replace hM := ifF hM hb29
     refine Oy (want := false) hb29 ?_
     refine Om (.i r6.2) ?_
     refine Oy (want := false) hb29 ?_
     obtain ⟨r30, hr30, hM⟩ := bindE hM
     refine o_call (bs := [.i r6.2]) (by decide) rfl rfl ((W_law01_isKnown hr30).le (.k .nil)) ?_
     refine Oy (want := false) hb29 ?_
     refine o_not (e := r30) (by decide) rfl ?_
     refine Pf (.b (!r30)) hb29 ?_
     refine Om (.b (!r30)) ?_
     rcases bft (!r30) with hb31 | hb31
     ·replace hM := ifT hM hb31
      refine On (want := false) hb31 ?_
      refine On (want := false) hb31 ?_
      refine On (want := false) hb31 ?_
      refine Pt (.b true) hb31 ?_
      refine Om (.b true) ?_
      refine Og ?_
      refine Og ?_
      refine Og ?_
      refine o_pickT (v := .b true) (e := true) (by decide) rfl rfl rfl ?_
      refine Ni ?_
      exact w_goto true (.k (.k (.k (.k (.k (.k (.k (.k (.k .nil))))))))) ⟨(hS.keep [] rfl).up (by omega), hM⟩
     ·replace hM := ifF hM hb31
      refine Oy (want := false) hb31 ?_
      refine Om (.i r7.2) ?_
      refine Oy (want := false) hb31 ?_
      refine Om (.i r6.2) ?_
      refine Oy (want := false) hb31 ?_
      refine Oi (.b (r7.2 != r6.2)) ?_
      refine Pf (.b (r7.2 != r6.2)) hb31 ?_
      refine Om (.b (r7.2 != r6.2)) ?_
      rcases bft (r7.2 != r6.2) with hb32 | hb32
      ·replace hM := ifT hM hb32
       refine On (want := false) hb32 ?_
       refine On (want := false) hb32 ?_
       refine On (want := false) hb32 ?_
       refine Pt (.b true) hb32 ?_
       refine Ni ?_
       exact w_goto true (.k (.k (.k (.k (.k (.k (.k (.k (.k .nil))))))))) ⟨(hS.keep [] rfl).up (by omega), hM⟩
      ·replace hM := ifF hM hb32
       refine Oy (want := false) hb32 ?_
       refine Om (.i r8.2) ?_
       refine Oy (want := false) hb32 ?_
       refine Om (.i r6.2) ?_
       refine Oy (want := false) hb32 ?_
       refine Oi (.b (r8.2 != r6.2)) ?_
       refine Pf (.b (r8.2 != r6.2)) hb32 ?_
       refine Ni ?_
       exact w_goto (r8.2 != r6.2) (.k (.k (.k (.k (.k (.k (.k (.k (.k .nil))))))))) ⟨(hS.keep [] rfl).up (by omega), hM⟩
 ·refine Rg 41 ?_
  refine Olg (.agg (Wheel.cells a0)) ty_agg24 ?_
  obtain ⟨r33, hr33, hM⟩ := bindE hM
  refine o_call (bs := [.agg (Wheel.cells a0)]) (by decide) rfl rfl ((W_law01_isWheel hr33).le (.k .nil)) ?_
  refine o_not (e := r33) (by decide) rfl ?_
  refine Om (.b (!r33)) ?_
  rcases bft (!r33) with hb34 | hb34
  ·replace hM := ifT hM hb34
   refine On (want := false) hb34 ?_
   refine On (want := false) hb34 ?_
   refine Pt (.b true) hb34 ?_
   refine Om (.b true) ?_
   refine Og ?_
   refine Og ?_
   refine o_pickT (v := .b true) (e := true) (by decide) rfl rfl rfl ?_
   refine Om (.b true) ?_
   refine Og ?_
   refine Og ?_
   refine o_pickT (v := .b true) (e := true) (by decide) rfl rfl rfl ?_
   refine Om (.b true) ?_
   refine Og ?_
   refine Og ?_
   refine o_pickT (v := .b true) (e := true) (by decide) rfl rfl rfl ?_
   refine Om (.b true) ?_
   refine Og ?_
   refine Og ?_
   refine Og ?_
   refine Og ?_
   refine o_pickT (v := .b true) (e := true) (by decide) rfl rfl rfl ?_
   refine Om (.b true) ?_
   refine Og ?_
   refine Og ?_
   refine Og ?_
   refine o_pickT (v := .b true) (e := true) (by decide) rfl rfl rfl ?_
   refine Om (.b true) ?_
   refine Og ?_
   refine Og ?_
   refine Og ?_
   refine Og ?_
   refine o_pickT (v := .b true) (e := true) (by decide) rfl rfl rfl ?_
   refine Om (.b true) ?_
   refine Og ?_
   refine Og ?_
   refine Og ?_
   refine o_pickT (v := .b true) (e := true) (by decide) rfl rfl rfl ?_
   refine Ni ?_
   exact w_goto true (.k (.k (.k (.k (.k .nil))))) ⟨(hS.keep [] rfl).up (by omega), hM⟩
  ·replace hM := ifF hM hb34
   refine Oy (want := false) hb34 ?_
   refine Om (.i a2.A) ?_
   refine Oy (want := false) hb34 ?_
   refine Oi (.b (decide (a2.A < 1))) ?_
   refine Pf (.b (decide (a2.A < 1))) hb34 ?_
   refine Om (.b (decide (a2.A < 1))) ?_
   rcases bft (decide (a2.A < 1)) with hb35 | hb35
   ·replace hM := ifT hM hb35
    refine On (want := false) hb35 ?_
    refine On (want := false) hb35 ?_
    refine Pt (.b true) hb35 ?_
    refine Om (.b true) ?_
    refine Og ?_
    refine Og ?_
    refine o_pickT (v := .b true) (e := true) (by decide) rfl rfl rfl ?_
    refine Om (.b true) ?_
    refine Og ?_
    refine Og ?_
    refine o_pickT (v := .b true) (e := true) (by decide) rfl rfl rfl ?_
    refine Om (.b true) ?_
    refine Og ?_
    refine Og ?_
    refine Og ?_
    refine Og ?_
    refine o_pickT (v := .b true) (e := true) (by decide) rfl rfl rfl ?_
    refine Om (.b true) ?_
    refine Og ?_
    refine Og ?_
    refine Og ?_
    refine o_pickT (v := .b true) (e := true) (by decide) rfl rfl rfl ?_
    refine Om (.b true) ?_
    refine Og ?_
    refine Og ?_
    refine Og ?_
    refine Og ?_
    refine o_pickT (v := .b true) (e := true) (by decide) rfl rfl rfl ?_
    refine Om (.b true) ?_
    refine Og ?_
    refine Og ?_
    refine Og ?_
    refine o_pickT (v := .b true) (e := true) (by decide) rfl rfl rfl ?_
    refine Ni ?_
    exact w_goto true (.k (.k (.k (.k (.k .nil))))) ⟨(hS.keep [] rfl).up (by omega), hM⟩
   ·replace hM := ifF hM hb35
    refine Oy (want := false) hb35 ?_
    refine Om (.i a2.B) ?_
    refine Oy (want := false) hb35 ?_
    refine Oi (.b (decide (a2.B < 1))) ?_
    refine Pf (.b (decide (a2.B < 1))) hb35 ?_
    refine Om (.b (decide (a2.B < 1))) ?_
    rcases bft (decide (a2.B < 1)) with hb36 | hb36
    ·replace hM := ifT hM hb36
     refine On (want := false) hb36 ?_
     refine On (want := false) hb36 ?_
     refine Pt (.b true) hb36 ?_
     refine Om (.b true) ?_
     refine Og ?_
     refine Og ?_
     refine o_pickT (v := .b true) (e := true) (by decide) rfl rfl rfl ?_
     refine Om (.b true) ?_
     refine Og ?_
     refine Og ?_
     refine Og ?_
     refine Og ?_
     refine o_pickT (v := .b true) (e := true) (by decide) rfl rfl rfl ?_
     refine Om (.b true) ?_
     refine Og ?_
     refine Og ?_
     refine Og ?_
     refine o_pickT (v := .b true) (e := true) (by decide) rfl rfl rfl ?_
     refine Om (.b true) ?_
     refine Og ?_
     refine Og ?_
     refine Og ?_
     refine Og ?_
     refine o_pickT (v := .b true) (e := true) (by decide) rfl rfl rfl ?_
     refine Om (.b true) ?_
     refine Og ?_
     refine Og ?_
     refine Og ?_
     refine o_pickT (v := .b true) (e := true) (by decide) rfl rfl rfl ?_
     refine Ni ?_
     exact w_goto true (.k (.k (.k (.k (.k .nil))))) ⟨(hS.keep [] rfl).up (by omega), hM⟩
    ·replace hM := ifF hM hb36
     refine Oy (want := false) hb36 ?_
     refine Om (.i a2.A) ?_
     refine Oy (want := false) hb36 ?_
     refine Oi (.b (decide (a2.A > 20))) ?_
     refine Pf (.b (decide (a2.A > 20))) hb36 ?_
     refine Om (.b (decide (a2.A > 20))) ?_
     rcases bft (decide (a2.A > 20)) with hb37 | hb37
     ·replace hM := ifT hM hb37
      refine On (want := false) hb37 ?_
      refine On (want := false) hb37 ?_
      refine Pt (.b true) hb37 ?_
      refine Om (.b true) ?_
      refine Og ?_
      refine Og ?_
      refine Og ?_
      refine Og ?_
      refine o_pickT (v := .b true) (e := true) (by decide) rfl rfl rfl ?_
      refine Om (.b true) ?_
      refine Og ?_
      refine Og ?_
      refine Og ?_
      refine o_pickT (v := .b true) (e := true) (by decide) rfl rfl rfl ?_
      refine Om (.b true) ?_
      refine Og ?_
      refine Og ?_
      refine Og ?_
      refine Og ?_
      refine o_pickT (v := .b true) (e := true) (by decide) rfl rfl rfl ?_
      refine Om (.b true) ?_
      refine Og ?_
      refine Og ?_
      refine Og ?_
      refine o_pickT (v := .b true) (e := true) (by decide) rfl rfl rfl ?_
      refine Ni ?_
      exact w_goto true (.k (.k (.k (.k (.k .nil))))) ⟨(hS.keep [] rfl).up (by omega), hM⟩
     ·replace hM := ifF hM hb37
      refine Oy (want := false) hb37 ?_
      refine Om (.i a2.B) ?_
      refine Oy (want := false) hb37 ?_
      refine Oi (.b (decide (a2.B > 20))) ?_
      refine Pf (.b (decide (a2.B > 20))) hb37 ?_
      refine Om (.b (decide (a2.B > 20))) ?_
      rcases bft (decide (a2.B > 20)) with hb38 | hb38
      ·replace hM := ifT hM hb38
       refine On (want := false) hb38 ?_
       refine On (want := false) hb38 ?_
       refine On (want := false) hb38 ?_
       refine On (want := false) hb38 ?_
       refine Pt (.b true) hb38 ?_
       refine Om (.b true) ?_
       refine Og ?_
       refine Og ?_
       refine Og ?_
       refine o_pickT (v := .b true) (e := true) (by decide) rfl rfl rfl ?_
       refine Om (.b true) ?_
       refine Og ?_
       refine Og ?_
       refine Og ?_
       refine Og ?_
       refine o_pickT (v := .b true) (e := true) (by decide) rfl rfl rfl ?_
       refine Om (.b true) ?_
       refine Og ?_
       refine Og ?_
       refine Og ?_
       refine o_pickT (v := .b true) (e := true) (by decide) rfl rfl rfl ?_
       refine Ni ?_
       exact w_goto true (.k (.k (.k (.k (.k .nil))))) ⟨(hS.keep [] rfl).up (by omega), hM⟩
      ·replace hM := ifF hM hb38
       refine Oy (want := false) hb38 ?_
       refine Om (.i a2.A) ?_
       refine Oy (want := false) hb38 ?_
       refine Om (.i a2.B) ?_
       refine Oy (want := false) hb38 ?_
       refine Oi (.i (w64 (a2.A + a2.B))) ?_
       refine Oy (want := false) hb38 ?_
       refine Oi (.b (decide ((w64 (a2.A + a2.B)) > 20))) ?_
       refine Pf (.b (decide ((w64 (a2.A + a2.B)) > 20))) hb38 ?_
       refine Om (.b (decide ((w64 (a2.A + a2.B)) > 20))) ?_
       rcases bft (decide ((w64 (a2.A + a2.B)) > 20)) with hb39 | hb39
       ·replace hM := ifT hM hb39
        refine On (want := false) hb39 ?_
        refine On (want := false) hb39 ?_
        refine On (want := false) hb39 ?_
        refine Pt (.b true) hb39 ?_
        refine Om (.b true) ?_
        refine Og ?_
        refine Og ?_
        refine Og ?_
        refine Og ?_
        refine o_pickT (v := .b true) (e := true) (by decide) rfl rfl rfl ?_
        refine Om (.b true) ?_
        refine Og ?_
        refine Og ?_
        refine Og ?_
        refine o_pickT (v := .b true) (e := true) (by decide) rfl rfl rfl ?_
        refine Ni ?_
        exact w_goto true (.k (.k (.k (.k (.k .nil))))) ⟨(hS.keep [] rfl).up (by omega), hM⟩
       ·replace hM := ifF hM hb39
        refine Oy (want := false) hb39 ?_
        refine Om (.sl .no 1 (a1.map cI)) ?_
        refine Oy (want := false) hb39 ?_
        refine o_len (n := a1.length) (by decide) rfl (List.length_map _) ty_isl22 ?_
        refine Oy (want := false) hb39 ?_
        refine Oi (.b (decide ((a1.length : Int) > 40))) ?_
        refine Pf (.b (decide ((a1.length : Int) > 40))) hb39 ?_
        refine Om (.b (decide ((a1.length : Int) > 40))) ?_
        rcases bft (decide ((a1.length : Int) > 40)) with hb40 | hb40
        ·replace hM := ifT hM hb40
         refine On (want := false) hb40 ?_
         refine On (want := false) hb40 ?_
         refine On (want := false) hb40 ?_
         refine On (want := false) hb40 ?_
         refine Pt (.b true) hb40 ?_
         refine Om (.b true) ?_
         refine Og ?_
         refine Og ?_
         refine Og ?_
         refine o_pickT (v := .b true) (e := true) (by decide) rfl rfl rfl ?_
         refine Ni ?_
         exact w_goto true (.k (.k (.k (.k (.k .nil))))) ⟨(hS.keep [] rfl).up (by omega), hM⟩
        ·replace hM := ifF hM hb40
         refine Oy (want := false) hb40 ?_
         refine Olg (.agg (Wheel.cells a0)) ty_agg24 ?_
         refine Oy (want := false) hb40 ?_
         refine Om (.sl .no 1 (a1.map cI)) ?_
         refine Oy (want := false) hb40 ?_
         obtain ⟨r41, hr41, hM⟩ := bindE hM
         refine o_call (bs := [.agg (Wheel.cells a0), .sl .no 1 (a1.map cI)]) (by decide) rfl rfl ((W_ref01_IsPurse hr41).le (.k (.k .nil))) ?_
         refine Oy (want := false) hb40 ?_
         refine o_not (e := r41) (by decide) rfl ?_
         refine Pf (.b (!r41)) hb40 ?_
         refine Om (.b (!r41)) ?_
         rcases bft (!r41) with hb42 | hb42
         ·replace hM := ifT hM hb42
          refine On (want := false) hb42 ?_
          refine On (want := false) hb42 ?_
          refine On (want := false) hb42 ?_
          refine Pt (.b true) hb42 ?_
          refine Ni ?_
          exact w_goto true (.k (.k (.k (.k (.k .nil))))) ⟨(hS.keep [] rfl).up (by omega), hM⟩
         ·replace hM := ifF hM hb42
          refine Oy (want := false) hb42 ?_
          refine Olg (.agg (Wheel.cells a0)) ty_agg24 ?_
          refine Oy (want := false) hb42 ?_
          refine Om (.sl .no 1 (a1.map cI)) ?_
          refine Oy (want := false) hb42 ?_
          obtain ⟨r43, hr43, hM⟩ := bindE hM
          refine o_call (bs := [.agg (Wheel.cells a0), .sl .no 1 (a1.map cI)]) (by decide) rfl rfl ((W_law01_rich hr43).le (.k (.k .nil))) ?_
          refine Pf (.b r43) hb42 ?_
          refine Ni ?_
          exact w_goto r43 (.k (.k (.k (.k (.k .nil))))) ⟨(hS.keep [] rfl).up (by omega), hM⟩
end Go.Proofs.Ytapcibbbmeomkaa
