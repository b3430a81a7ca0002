/-
  The code returns what the functions say (printed by gen.py).
  Conditions: none.
-/
import Derived.Test.YtapcibbbmeomkaaWkCoinsCheapest2
import Derived.Test.YtapcibbbmeomkaaSh
set_option linter.all false
namespace Go.Proofs.Ytapcibbbmeomkaa
open Go Go.AM Go.Law
set_option linter.unusedVariables false
set_option maxRecDepth 4000
set_option maxHeartbeats 4000000
theorem W_ref01_Rising {n : Nat} {a0 : List Int} {a1 : Int} {a2 : Int} {r : Bool} (hM : ref01_Rising n a0 a1 a2 = some r) : PureSat Try.prog 73 [.sl .no 1 (a0.map cI), .i a1, .i a2] (.b r) := by
 refine pure_of_wp mixed Try.func73 rfl (by decide) Try.ntmps73 (by simp) ?pure fun H0 g hf => ?_
 case pure => exact .v _
 rw [frame0_of]
 change wpA _ _ _ _ (Fr.of [(0, .sl .no 1 (a0.map cI)), (1, .i a1), (2, .i a2)]) H0 g
 have hS := St.start hf
 refine Sq ?_
 refine Rg 1 ?_
 refine Oa (.b false) ?_
 refine Ni ?_
 refine Ws ?_
 refine w_join (J := Unit) (fun j => []) (fun j H' g' => St (· < g) H0 [] H' g' ∧ ref01_Rising_j1 = some r) ?_ ?_
 ·rintro _ H g1 ⟨hS, hM⟩
  change wpA _ _ _ _ (Fr.of []) _ _
  replace hS : St (· < g) H0 [] H g1 := hS
  replace hM : ref01_Rising_j1 = some r := hM
  refine Sq ?_
  refine Rg 1 ?_
  refine Oa (.b true) ?_
  refine Ni ?_
  refine Ws ?_
  refine r_ret ?_
  refine w_end (x := .b true) (f := fun r => .b r) (.inr rfl) ?_ (.refl _) (Option.some.inj hM) hS
  exact (res_one (res_tmp (x := .b true) rfl))
 ·refine Sq ?_
  refine Rg 1 ?_
  refine Oa (.i 0) ?_
  refine Ni ?_
  refine Ws ?_
  refine r_block ?_
  refine w_loop (V := Int) (fun v => [(0, .sl .no 1 (a0.map cI)), (1, .i a1), (2, .i a2), (7, .i v)]) (fun v m2 H' g' => St (· < g) H0 [] H' g' ∧ ref01_Rising_l1 a0 a1 a2 m2 v = some r) (n := n) 0 (.k (.k (.k (.k .nil)))) ⟨(hS.keep [] rfl).up (by omega), hM⟩ ?_
  rintro v1 m2 H g2 ⟨hS, hM⟩
  obtain _ | m2 := m2
  ·exact nomatch (show none = some _ from hM)
  change wpA _ _ _ _ (Fr.of [(0, .sl .no 1 (a0.map cI)), (1, .i a1), (2, .i a2), (7, .i v1)]) _ _
  replace hS : St (· < g) H0 [] H g2 := hS
  replace hM : ref01_Rising_l1_b a0 a1 a2 (ref01_Rising_l1 a0 a1 a2 m2) v1 = some r := hM
  refine Sq ?_
  refine Sq ?_
  refine Rg 4 ?_
  refine Om (.i v1) ?_
  refine Om (.sl .no 1 (a0.map cI)) ?_
  refine o_len (n := a0.length) (by decide) rfl (List.length_map _) ty_isl22 ?_
  refine Oi (.b (decide (v1 < (a0.length : Int)))) ?_
  refine Ni ?_
  refine Ws ?_
  rcases bft (decide (v1 < (a0.length : Int))) with hb2 | hb2
  ·replace hM := ifT hM hb2
   refine Ct hb2 ?_
   refine r_skip ?_
   refine Ws ?_
   refine Sq ?_
   refine r_block ?_
   refine w_join (J := Bool) (fun j => [(0, .sl .no 1 (a0.map cI)), (1, .i a1), (2, .i a2), (7, .i v1), (37, .b j)]) (fun j H' g' => St (· < g) H0 [] H' g' ∧ ref01_Rising_j2 (ref01_Rising_l1 a0 a1 a2 m2) v1 j = some r) ?_ ?_
   ·rintro v3 H g3 ⟨hS, hM⟩
    change wpA _ _ _ _ (Fr.of [(0, .sl .no 1 (a0.map cI)), (1, .i a1), (2, .i a2), (7, .i v1), (37, .b v3)]) _ _
    replace hS : St (· < g) H0 [] H g3 := hS
    replace hM : ref01_Rising_j2 (ref01_Rising_l1 a0 a1 a2 m2) v1 v3 = some r := hM
    rcases bft v3 with hb4 | hb4
    ·replace hM := ifT hM hb4
     refine Ct hb4 ?_
     refine Sq ?_
     refine Rg 1 ?_
     refine Oa (.b false) ?_
     refine Ni ?_
     refine Ws ?_
     refine r_ret ?_
     refine r_blk_ret ?_
     refine r_then_ret ?_
     refine w_round_ret ?_
     refine r_blk_ret ?_
     refine w_goto_ret ?_
     refine w_end (x := .b false) (f := fun r => .b r) (.inr rfl) ?_ (.refl _) (Option.some.inj hM) hS
     exact (res_one (res_tmp (x := .b false) rfl))
    ·replace hM := ifF hM hb4
     refine Cf hb4 ?_
     refine r_skip ?_
     refine r_blk_normal ?_
     refine Ws ?_
     refine Rg 3 ?_
     refine Om (.i v1) ?_
     refine Oi (.i (w64 (v1 + 1))) ?_
     refine Oa (.i (w64 (v1 + 1))) ?_
     refine Ni ?_
     exact w_round (w64 (v1 + 1)) (Nat.lt_succ_self _) (.k (.k (.k (.k .nil)))) ⟨(hS.keep [] rfl).up (by omega), hM⟩
   ·have hS0 := hS
    refine r_draw (n := 24) rfl (by kernel_rfl) ?_
    refine Om (.sl .no 1 (a0.map cI)) ?_
    refine Om (.i v1) ?_
    obtain ⟨x5, hx5, hM⟩ := bindE hM
    refine o_index (xs := a0) (f := cI) (z := v1) (u := x5) (by decide) rfl rfl ty_es22 hx5 ?_
    refine Olp (.i x5) ty_agg3 ty_sc3 ?_
    refine Om (.i a1) ?_
    refine Om (.i a2) ?_
    obtain ⟨r6, hr6, hM⟩ := bindE hM
    refine o_call (bs := [.i x5, .i a1, .i a2]) (by decide) rfl rfl ((W_ref01_Within hr6).le (.k (.k (.k .nil)))) ?_
    refine o_not (e := r6) (by decide) rfl ?_
    refine Om (.b (!r6)) ?_
    rcases bft (!r6) with hb7 | hb7
    ·replace hM := ifT hM hb7
     refine On (want := false) hb7 ?_
     refine On (want := false) hb7 ?_
     refine On (want := false) hb7 ?_
     refine o_guardU (j := 11) (by decide) rfl ?_
     refine o_guardU (j := 11) (by decide) rfl ?_
     refine o_guardU (j := 11) (by decide) rfl ?_
     refine o_guardU (j := 11) (by decide) rfl ?_
     refine o_guardU (j := 11) (by decide) rfl ?_
     refine o_guardU (j := 11) (by decide) rfl ?_
     refine o_guardU (j := 11) (by decide) rfl ?_
     refine o_guardU (j := 11) (by decide) rfl ?_
     refine o_guardU (j := 11) (by decide) rfl ?_
     refine o_guardU (j := 11) (by decide) rfl ?_
     refine On (want := false) hb7 ?_
     refine Pt (.b true) hb7 ?_
     refine Ni ?_
     exact w_goto true (.k (.k (.k (.k (.k .nil))))) ⟨(hS.keep [] rfl).up (by omega), hM⟩
    ·replace hM := ifF hM hb7
     refine Oy (want := false) hb7 ?_
     refine Om (.i v1) ?_
     refine Oy (want := false) hb7 ?_
     refine Oi (.b (decide (v1 > 0))) ?_
     refine Oy (want := false) hb7 ?_
     refine Om (.b (decide (v1 > 0))) ?_
     rcases bft (decide (v1 > 0)) with hb8 | hb8
     ·replace hM := ifT hM hb8
      refine Oy (want := true) hb8 ?_
      refine Om (.sl .no 1 (a0.map cI)) ?_
      refine Oy (want := true) hb8 ?_
      refine Om (.i v1) ?_
      refine Oy (want := true) hb8 ?_
      obtain ⟨x9, hx9, hM⟩ := bindE hM
      refine o_index (xs := a0) (f := cI) (z := v1) (u := x9) (by decide) rfl rfl ty_es22 hx9 ?_
      refine Oy (want := true) hb8 ?_
      refine Olp (.i x9) ty_agg3 ty_sc3 ?_
      refine Oy (want := true) hb8 ?_
      refine Om (.sl .no 1 (a0.map cI)) ?_
      refine Oy (want := true) hb8 ?_
      refine Om (.i v1) ?_
      refine Oy (want := true) hb8 ?_
      refine Oi (.i (w64 (v1 - 1))) ?_
      refine Oy (want := true) hb8 ?_
      obtain ⟨x10, hx10, hM⟩ := bindE hM
      refine o_index (xs := a0) (f := cI) (z := (w64 (v1 - 1))) (u := x10) (by decide) rfl rfl ty_es22 hx10 ?_
      refine Oy (want := true) hb8 ?_
      refine Olp (.i x10) ty_agg3 ty_sc3 ?_
      refine Oy (want := true) hb8 ?_
      refine Oi (.b (decide (x9 ≤ x10))) ?_
      refine Oy (want := false) hb7 ?_
      refine Pt (.b (decide (x9 ≤ x10))) hb8 ?_
      refine Pf (.b (decide (x9 ≤ x10))) hb7 ?_
      refine Ni ?_
      exact w_goto (decide (x9 ≤ x10)) (.k (.k (.k (.k (.k .nil))))) ⟨(hS.keep [] rfl).up (by omega), hM⟩
     ·replace hM := ifF hM hb8
      refine On (want := true) hb8 ?_
      refine On (want := true) hb8 ?_
      refine On (want := true) hb8 ?_
      refine On (want := true) hb8 ?_
      refine On (want := true) hb8 ?_
      refine On (want := true) hb8 ?_
      refine On (want := true) hb8 ?_
      refine On (want := true) hb8 ?_
      refine On (want := true) hb8 ?_
      refine On (want := true) hb8 ?_
      refine Oy (want := false) hb7 ?_
      refine Pf (.b false) hb8 ?_
      refine Pf (.b false) hb7 ?_
      refine Ni ?_
      exact w_goto false (.k (.k (.k (.k (.k .nil))))) ⟨(hS.keep [] rfl).up (by omega), hM⟩
  ·replace hM := ifF hM hb2
   refine Cf hb2 ?_
   refine r_exit ?_
   refine r_then_exit ?_
   refine w_round_exit ?_
   refine r_blk_exit ?_
   exact w_goto () .nil ⟨(hS.keep [] rfl).up (by omega), hM⟩
theorem W_ref01_Check {n : Nat} {a0 : Wheel} {r : Int} (hM : ref01_Check n a0 = some r) : PureSat Try.prog 39 [.agg (Wheel.cells a0)] (.i r) := by
 refine pure_of_wp mixed Try.func39 rfl (by decide) Try.ntmps39 (by simp) ?pure fun H0 g hf => ?_
 case pure => exact .v _
 rw [frame0_of]
 change wpA _ _ _ _ (Fr.of [(0, .agg (Wheel.cells a0))]) H0 g
 have hS := St.start hf
 refine Sq ?_
 refine Rg 2 ?_
 refine o_box (v := .agg (Wheel.cells a0)) (cs := (Wheel.cells a0)) hS (by decide) rfl rfl (by omega) fun H hS => ?_
 refine Oa (.i 0) ?_
 refine Ni ?_
 refine w_iceE (L' := []) 0 1 hS rfl rfl rfl fun H hS => ?_
 refine Ws ?_
 refine Sq ?_
 refine w_join (J := Bool) (fun j => [(32, .b j)]) (fun j H' g' => St (· < g) H0 [] H' g' ∧ ref01_Check_j1 j = some r) ?_ ?_
 ·rintro v1 H g1 ⟨hS, hM⟩
  change wpA _ _ _ _ (Fr.of [(32, .b v1)]) _ _
  replace hS : St (· < g) H0 [] H g1 := hS
  replace hM : ref01_Check_j1 v1 = some r := hM
  rcases bft v1 with hb2 | hb2
  ·replace hM := ifT hM hb2
   refine Ct hb2 ?_
   refine Sq ?_
   refine Rg 1 ?_
   refine Oa (.i 10) ?_
   refine Ni ?_
   refine Ws ?_
   refine r_ret ?_
   refine r_then_ret ?_
   refine w_end (x := .i 10) (f := fun r => .i r) (.inr rfl) ?_ (.refl _) (Option.some.inj hM) hS
   exact (res_one (res_tmp (x := .i 10) rfl))
  ·replace hM := ifF hM hb2
   refine Cf hb2 ?_
   refine r_skip ?_
   refine Ws ?_
   refine Sq ?_
   refine Rg 1 ?_
   refine Oa (.i 0) ?_
   refine Ni ?_
   refine Ws ?_
   refine r_ret ?_
   refine w_end (x := .i 0) (f := fun r => .i r) (.inr rfl) ?_ (.refl _) (Option.some.inj hM) hS
   exact (res_one (res_tmp (x := .i 0) rfl))
 ·refine Rg 30 ?_
  refine Of ((Wheel.cells a0)) ty_fo24_0 ?_
  refine Olp (.i a0.Round) ty_agg3 ty_sc3 ?_
  obtain ⟨r3, hr3, hM⟩ := bindE hM
  refine o_call (bs := [.i a0.Round, .i 1, .i 200]) (by decide) rfl rfl ((W_ref01_Within hr3).le (.k (.k (.k .nil)))) ?_
  refine o_not (e := r3) (by decide) rfl ?_
  refine Om (.b (!r3)) ?_
  rcases bft (!r3) with hb4 | hb4
  ·replace hM := ifT hM hb4
   refine On (want := false) hb4 ?_
   refine On (want := false) hb4 ?_
   refine On (want := false) hb4 ?_
   refine On (want := false) hb4 ?_
   refine Pt (.b true) hb4 ?_
   refine Om (.b true) ?_
   refine Og ?_
   refine Og ?_
   refine Og ?_
   refine Og ?_
   refine Og ?_
   refine Og ?_
   refine o_pickT (v := .b true) (e := true) (by decide) rfl rfl rfl ?_
   refine Om (.b true) ?_
   refine Og ?_
   refine Og ?_
   refine Og ?_
   refine Og ?_
   refine o_pickT (v := .b true) (e := true) (by decide) rfl rfl rfl ?_
   refine Om (.b true) ?_
   refine Og ?_
   refine Og ?_
   refine Og ?_
   refine Og ?_
   refine o_pickT (v := .b true) (e := true) (by decide) rfl rfl rfl ?_
   refine Ni ?_
   exact w_goto true (.k .nil) ⟨(hS.keep [] rfl).up (by omega), hM⟩
  ·replace hM := ifF hM hb4
   refine Oy (want := false) hb4 ?_
   refine Of ((Wheel.cells a0)) ty_fo24_1 ?_
   refine Oy (want := false) hb4 ?_
   refine Olp (.sl .no 1 (a0.Notches.map cI)) ty_agg22 ty_sc22 ?_
   refine Oy (want := false) hb4 ?_
   refine o_len (n := a0.Notches.length) (by decide) rfl (List.length_map _) ty_isl22 ?_
   refine Oy (want := false) hb4 ?_
   refine Oi (.b (decide ((a0.Notches.length : Int) > 12))) ?_
   refine Pf (.b (decide ((a0.Notches.length : Int) > 12))) hb4 ?_
   refine Om (.b (decide ((a0.Notches.length : Int) > 12))) ?_
   rcases bft (decide ((a0.Notches.length : Int) > 12)) with hb5 | hb5
   ·replace hM := ifT hM hb5
    refine On (want := false) hb5 ?_
    refine On (want := false) hb5 ?_
    refine On (want := false) hb5 ?_
    refine On (want := false) hb5 ?_
    refine On (want := false) hb5 ?_
    refine On (want := false) hb5 ?_
    refine Pt (.b true) hb5 ?_
    refine Om (.b true) ?_
    refine Og ?_
    refine Og ?_
    refine Og ?_
    refine Og ?_
    refine o_pickT (v := .b true) (e := true) (by decide) rfl rfl rfl ?_
    refine Om (.b true) ?_
    refine Og ?_
    refine Og ?_
    refine Og ?_
    refine Og ?_
    refine o_pickT (v := .b true) (e := true) (by decide) rfl rfl rfl ?_
    refine Ni ?_
    exact w_goto true (.k .nil) ⟨(hS.keep [] rfl).up (by omega), hM⟩
   ·replace hM := ifF hM hb5
    refine Oy (want := false) hb5 ?_
    refine Of ((Wheel.cells a0)) ty_fo24_1 ?_
    refine Oy (want := false) hb5 ?_
    refine Olp (.sl .no 1 (a0.Notches.map cI)) ty_agg22 ty_sc22 ?_
    refine Oy (want := false) hb5 ?_
    refine Of ((Wheel.cells a0)) ty_fo24_0 ?_
    refine Oy (want := false) hb5 ?_
    refine Olp (.i a0.Round) ty_agg3 ty_sc3 ?_
    refine Oy (want := false) hb5 ?_
    obtain ⟨r6, hr6, hM⟩ := bindE hM
    refine o_call (bs := [.sl .no 1 (a0.Notches.map cI), .i 1, .i a0.Round]) (by decide) rfl rfl ((W_ref01_Rising hr6).le (.k (.k (.k .nil)))) ?_
    refine Oy (want := false) hb5 ?_
    refine o_not (e := r6) (by decide) rfl ?_
    refine Pf (.b (!r6)) hb5 ?_
    refine Om (.b (!r6)) ?_
    rcases bft (!r6) with hb7 | hb7
    ·replace hM := ifT hM hb7
     refine On (want := false) hb7 ?_
     refine On (want := false) hb7 ?_
     refine On (want := false) hb7 ?_
     refine On (want := false) hb7 ?_
     refine Pt (.b true) hb7 ?_
     refine Om (.b true) ?_
     refine Og ?_
     refine Og ?_
     refine Og ?_
     refine Og ?_
     refine o_pickT (v := .b true) (e := true) (by decide) rfl rfl rfl ?_
     refine Ni ?_
     exact w_goto true (.k .nil) ⟨(hS.keep [] rfl).up (by omega), hM⟩
    ·replace hM := ifF hM hb7
     refine Oy (want := false) hb7 ?_
     refine Of ((Wheel.cells a0)) ty_fo24_2 ?_
     refine Oy (want := false) hb7 ?_
     refine Olp (.sl .no 1 (a0.Coins.map cI)) ty_agg22 ty_sc22 ?_
     refine Oy (want := false) hb7 ?_
     refine o_len (n := a0.Coins.length) (by decide) rfl (List.length_map _) ty_isl22 ?_
     refine Oy (want := false) hb7 ?_
     refine Oi (.b (decide ((a0.Coins.length : Int) > 4))) ?_
     refine Pf (.b (decide ((a0.Coins.length : Int) > 4))) hb7 ?_
     refine Om (.b (decide ((a0.Coins.length : Int) > 4))) ?_
     rcases bft (decide ((a0.Coins.length : Int) > 4)) with hb8 | hb8
     ·replace hM := ifT hM hb8
      refine On (want := false) hb8 ?_
      refine On (want := false) hb8 ?_
      refine On (want := false) hb8 ?_
      refine On (want := false) hb8 ?_
      refine Pt (.b true) hb8 ?_
      refine Ni ?_
      exact w_goto true (.k .nil) ⟨(hS.keep [] rfl).up (by omega), hM⟩
     ·replace hM := ifF hM hb8
      refine Oy (want := false) hb8 ?_
      refine Of ((Wheel.cells a0)) ty_fo24_2 ?_
      refine Oy (want := false) hb8 ?_
      refine Olp (.sl .no 1 (a0.Coins.map cI)) ty_agg22 ty_sc22 ?_
      refine Oy (want := false) hb8 ?_
      obtain ⟨r9, hr9, hM⟩ := bindE hM
      refine o_call (bs := [.sl .no 1 (a0.Coins.map cI), .i 1, .i 100]) (by decide) rfl rfl ((W_ref01_Rising hr9).le (.k (.k (.k .nil)))) ?_
      refine Oy (want := false) hb8 ?_
      refine o_not (e := r9) (by decide) rfl ?_
      refine Pf (.b (!r9)) hb8 ?_
      refine Ni ?_
      exact w_goto (!r9) (.k .nil) ⟨(hS.keep [] rfl).up (by omega), hM⟩
theorem W_ref01_can {n : Nat} {a0 : Wheel} {a1 : Int} {r : (List Int)} (hM : ref01_can n a0 a1 = some r) : PureSat Try.prog 62 [.agg (Wheel.cells a0), .i a1] (.sl .no 1 (r.map cI)) := by
 refine pure_of_wp mixed Try.func62 rfl (by decide) Try.ntmps62 (by simp) ?pure fun H0 g hf => ?_
 case pure => exact .sl _ _ (pures_map (fun x => (pl_cons (.v _) pl_nil)))
 rw [frame0_of]
 change wpA _ _ _ _ (Fr.of [(0, .agg (Wheel.cells a0)), (1, .i a1)]) H0 g
 have hS := St.start hf
 refine Sq ?_
 refine Rg 2 ?_
 refine o_box (v := .agg (Wheel.cells a0)) (cs := (Wheel.cells a0)) hS (by decide) rfl rfl (by omega) fun H hS => ?_
 refine Oa (.sl .nil 0 []) ?_
 refine Ni ?_
 refine w_iceE (L' := []) 0 2 hS rfl rfl rfl fun H hS => ?_
 refine Ws ?_
 refine Sq ?_
 refine Rg 2 ?_
 refine o_buildSlice (es := [[.i 1]]) hS (by decide) ty_es22 ty_el22 rfl ty_ef22 rfl (by decide) (by omega) fun H hS => ?_
 refine Oa (.sl (.id (g + 2 + 0)) 1 (([1] : List Int).map cI)) ?_
 refine Ni ?_
 refine Ws ?_
 refine w_join (J := (List Int)) (fun j => [(5, .sl (.id (g + 2 + 0)) 1 (j.map cI))]) (fun j H' g' => St (· < g) H0 [(g + 2 + 0, .row 3 j.length)] H' g' ∧ ref01_can_j1 j = some r) ?_ ?_
 ·rintro v1 H g1 ⟨hS, hM⟩
  change wpA _ _ _ _ (Fr.of [(5, .sl (.id (g + 2 + 0)) 1 (v1.map cI))]) _ _
  replace hS : St (· < g) H0 [(g + 2 + 0, .row 3 v1.length)] H g1 := hS
  replace hM : ref01_can_j1 v1 = some r := hM
  refine Sq ?_
  refine Rg 2 ?_
  refine Om (.sl (.id (g + 2 + 0)) 1 (v1.map cI)) ?_
  refine Oa (.sl (.id (g + 2 + 0)) 1 (v1.map cI)) ?_
  refine Ni ?_
  refine Ws ?_
  refine r_ret ?_
  refine w_end (x := .sl (.id (g + 2 + 0)) 1 (v1.map cI)) (f := fun r => .sl .no 1 (r.map cI)) (.inr rfl) ?_ (.sl _ _ _) (Option.some.inj hM) hS
  exact (res_one (res_tmp (x := .sl (.id (g + 2 + 0)) 1 (v1.map cI)) rfl))
 ·refine Sq ?_
  refine Rg 1 ?_
  refine Oa (.i 1) ?_
  refine Ni ?_
  refine Ws ?_
  refine r_block ?_
  refine w_loop (V := (List Int) × Int) (fun v => [(1, .i a1), (2, .ep (Wheel.cells a0)), (5, .sl (.id (g + 2 + 0)) 1 (v.1.map cI)), (6, .i v.2)]) (fun v m2 H' g' => St (· < g) H0 [(g + 2 + 0, .row 3 v.1.length)] H' g' ∧ ref01_can_l1 n a0 a1 m2 v.1 v.2 = some r) (n := n) (([1] : List Int), 1) (.k (.k (.k (.k .nil)))) ⟨(hS.keep [true] rfl).up (by omega), hM⟩ ?_
  rintro ⟨v2, v3⟩ m2 H g2 ⟨hS, hM⟩
  obtain _ | m2 := m2
  ·exact nomatch (show none = some _ from hM)
  change wpA _ _ _ _ (Fr.of [(1, .i a1), (2, .ep (Wheel.cells a0)), (5, .sl (.id (g + 2 + 0)) 1 (v2.map cI)), (6, .i v3)]) _ _
  replace hS : St (· < g) H0 [(g + 2 + 0, .row 3 v2.length)] H g2 := hS
  replace hM : ref01_can_l1_b n a0 a1 (ref01_can_l1 n a0 a1 m2) v2 v3 = some r := hM
  refine Sq ?_
  refine Sq ?_
  refine Rg 3 ?_
  refine Om (.i v3) ?_
  refine Om (.i a1) ?_
  refine Oi (.b (decide (v3 ≤ a1))) ?_
  refine Ni ?_
  refine Ws ?_
  rcases bft (decide (v3 ≤ a1)) with hb4 | hb4
  ·replace hM := ifT hM hb4
   refine Ct hb4 ?_
   refine r_skip ?_
   refine Ws ?_
   refine w_join (J := (List Int)) (fun j => [(1, .i a1), (2, .ep (Wheel.cells a0)), (5, .sl (.id (g + 2 + 0)) 1 (j.map cI)), (6, .i v3)]) (fun j H' g' => St (· < g) H0 [(g + 2 + 0, .row 3 j.length)] H' g' ∧ ref01_can_j2 (ref01_can_l1 n a0 a1 m2) v3 j = some r) ?_ ?_
   ·rintro v5 H g3 ⟨hS, hM⟩
    change wpA _ _ _ _ (Fr.of [(1, .i a1), (2, .ep (Wheel.cells a0)), (5, .sl (.id (g + 2 + 0)) 1 (v5.map cI)), (6, .i v3)]) _ _
    replace hS : St (· < g) H0 [(g + 2 + 0, .row 3 v5.length)] H g3 := hS
    replace hM : ref01_can_j2 (ref01_can_l1 n a0 a1 m2) v3 v5 = some r := hM
    refine Rg 3 ?_
    refine Om (.i v3) ?_
    refine Oi (.i (w64 (v3 + 1))) ?_
    refine Oa (.i (w64 (v3 + 1))) ?_
    refine Ni ?_
    exact w_round (v5, w64 (v3 + 1)) (Nat.lt_succ_self _) (.k (.k (.k (.k .nil)))) ⟨(hS.keep [true] rfl).up (by omega), hM⟩
   ·refine r_block ?_
    refine Sq ?_
    refine Rg 1 ?_
    refine Oa (.i 0) ?_
    refine Ni ?_
    refine Ws ?_
    refine w_join (J := Int) (fun j => [(1, .i a1), (2, .ep (Wheel.cells a0)), (5, .sl (.id (g + 2 + 0)) 1 (v2.map cI)), (6, .i v3), (7, .i j)]) (fun j H' g' => St (· < g) H0 [(g + 2 + 0, .row 3 v2.length)] H' g' ∧ ref01_can_j3 (ref01_can_l1 n a0 a1 m2) v2 v3 j = some r) ?_ ?_
    ·rintro v6 H g4 ⟨hS, hM⟩
     change wpA _ _ _ _ (Fr.of [(1, .i a1), (2, .ep (Wheel.cells a0)), (5, .sl (.id (g + 2 + 0)) 1 (v2.map cI)), (6, .i v3), (7, .i v6)]) _ _
     replace hS : St (· < g) H0 [(g + 2 + 0, .row 3 v2.length)] H g4 := hS
     replace hM : ref01_can_j3 (ref01_can_l1 n a0 a1 m2) v2 v3 v6 = some r := hM
     refine Rg 5 ?_
     refine Om (.sl (.id (g + 2 + 0)) 1 (v2.map cI)) ?_
     refine Om (.i v6) ?_
     refine o_buildSlice (es := [[.i v6]]) hS (by decide) ty_es22 ty_el22 rfl ty_ef22 rfl (by decide) (by omega) fun H hS => ?_
     obtain ⟨l7, hl7, hM⟩ := bindE hM
     refine o_append (xs := v2) (ys := ([v6] : List Int)) (zs := l7) (f := cI) (L' := [(g4 + 2, .row 3 1), (g + 2 + 0, .row 3 l7.length)]) 1 hS (by decide) rfl rfl rfl rfl .no ty_es22 ty_el22 ty_ef22 hl7 rfl fun H hS => ?_
     refine Oa (.sl (.id (g + 2 + 0)) 1 (l7.map cI)) ?_
     refine Ni ?_
     refine r_blk_normal ?_
     exact w_goto l7 (.k (.k (.k (.k .nil)))) ⟨(hS.keep [false, true] rfl).up (by omega), hM⟩
    ·refine Sq ?_
     refine Rg 1 ?_
     refine Oa (.i 0) ?_
     refine Ni ?_
     refine Ws ?_
     refine r_block ?_
     refine w_loop (V := Int × Int) (fun v => [(1, .i a1), (2, .ep (Wheel.cells a0)), (5, .sl (.id (g + 2 + 0)) 1 (v2.map cI)), (6, .i v3), (7, .i v.1), (8, .i v.2)]) (fun v m5 H' g' => St (· < g) H0 [(g + 2 + 0, .row 3 v2.length)] H' g' ∧ ref01_can_l2 (ref01_can_l1 n a0 a1 m2) a0 v2 v3 m5 v.1 v.2 = some r) (n := n) (0, 0) (.k (.k (.k (.k (.k (.k .nil)))))) ⟨(hS.keep [true] rfl).up (by omega), hM⟩ ?_
     rintro ⟨v8, v9⟩ m5 H g5 ⟨hS, hM⟩
     obtain _ | m5 := m5
     ·exact nomatch (show none = some _ from hM)
     change wpA _ _ _ _ (Fr.of [(1, .i a1), (2, .ep (Wheel.cells a0)), (5, .sl (.id (g + 2 + 0)) 1 (v2.map cI)), (6, .i v3), (7, .i v8), (8, .i v9)]) _ _
     replace hS : St (· < g) H0 [(g + 2 + 0, .row 3 v2.length)] H g5 := hS
     replace hM : ref01_can_l2_b (ref01_can_l1 n a0 a1 m2) a0 v2 v3 (ref01_can_l2 (ref01_can_l1 n a0 a1 m2) a0 v2 v3 m5) v8 v9 = some r := hM
     refine Sq ?_
     refine Sq ?_
     refine Rg 5 ?_
     refine Om (.i v9) ?_
     refine Of ((Wheel.cells a0)) ty_fo24_2 ?_
     refine Olp (.sl .no 1 (a0.Coins.map cI)) ty_agg22 ty_sc22 ?_
     refine o_len (n := a0.Coins.length) (by decide) rfl (List.length_map _) ty_isl22 ?_
     refine Oi (.b (decide (v9 < (a0.Coins.length : Int)))) ?_
     refine Ni ?_
     refine Ws ?_
     rcases bft (decide (v9 < (a0.Coins.length : Int))) with hb10 | hb10
     ·replace hM := ifT hM hb10
      refine Ct hb10 ?_
      refine r_skip ?_
      refine Ws ?_
      refine w_join (J := Int) (fun j => [(1, .i a1), (2, .ep (Wheel.cells a0)), (5, .sl (.id (g + 2 + 0)) 1 (v2.map cI)), (6, .i v3), (7, .i j), (8, .i v9)]) (fun j H' g' => St (· < g) H0 [(g + 2 + 0, .row 3 v2.length)] H' g' ∧ ref01_can_j4 (ref01_can_l2 (ref01_can_l1 n a0 a1 m2) a0 v2 v3 m5) v9 j = some r) ?_ ?_
      ·rintro v11 H g6 ⟨hS, hM⟩
       change wpA _ _ _ _ (Fr.of [(1, .i a1), (2, .ep (Wheel.cells a0)), (5, .sl (.id (g + 2 + 0)) 1 (v2.map cI)), (6, .i v3), (7, .i v11), (8, .i v9)]) _ _
       replace hS : St (· < g) H0 [(g + 2 + 0, .row 3 v2.length)] H g6 := hS
       replace hM : ref01_can_j4 (ref01_can_l2 (ref01_can_l1 n a0 a1 m2) a0 v2 v3 m5) v9 v11 = some r := hM
       refine Rg 3 ?_
       refine Om (.i v9) ?_
       refine Oi (.i (w64 (v9 + 1))) ?_
       refine Oa (.i (w64 (v9 + 1))) ?_
       refine Ni ?_
       exact w_round (v11, w64 (v9 + 1)) (Nat.lt_succ_self _) (.k (.k (.k (.k (.k (.k .nil)))))) ⟨(hS.keep [true] rfl).up (by omega), hM⟩
      ·refine r_block ?_
       refine w_join (J := Bool) (fun j => [(1, .i a1), (2, .ep (Wheel.cells a0)), (5, .sl (.id (g + 2 + 0)) 1 (v2.map cI)), (6, .i v3), (7, .i v8), (8, .i v9), (41, .b j)]) (fun j H' g' => St (· < g) H0 [(g + 2 + 0, .row 3 v2.length)] H' g' ∧ ref01_can_j5 (ref01_can_l2 (ref01_can_l1 n a0 a1 m2) a0 v2 v3 m5) v8 v9 j = some r) ?_ ?_
       ·rintro v12 H g7 ⟨hS, hM⟩
        change wpA _ _ _ _ (Fr.of [(1, .i a1), (2, .ep (Wheel.cells a0)), (5, .sl (.id (g + 2 + 0)) 1 (v2.map cI)), (6, .i v3), (7, .i v8), (8, .i v9), (41, .b v12)]) _ _
        replace hS : St (· < g) H0 [(g + 2 + 0, .row 3 v2.length)] H g7 := hS
        replace hM : ref01_can_j5 (ref01_can_l2 (ref01_can_l1 n a0 a1 m2) a0 v2 v3 m5) v8 v9 v12 = some r := hM
        rcases bft v12 with hb13 | hb13
        ·replace hM := ifT hM hb13
         refine Ct hb13 ?_
         refine Rg 1 ?_
         refine Oa (.i 1) ?_
         refine Ni ?_
         refine r_blk_normal ?_
         exact w_goto 1 (.k (.k (.k (.k (.k (.k .nil)))))) ⟨(hS.keep [true] rfl).up (by omega), hM⟩
        ·replace hM := ifF hM hb13
         refine Cf hb13 ?_
         refine r_skip ?_
         refine r_blk_normal ?_
         exact w_goto v8 (.k (.k (.k (.k (.k (.k .nil)))))) ⟨(hS.keep [true] rfl).up (by omega), hM⟩
       ·refine Rg 20 ?_
        refine Om (.i v3) ?_
        refine Of ((Wheel.cells a0)) ty_fo24_2 ?_
        refine Olp (.sl .no 1 (a0.Coins.map cI)) ty_agg22 ty_sc22 ?_
        refine Om (.i v9) ?_
        obtain ⟨x14, hx14, hM⟩ := bindE hM
        refine o_index (xs := a0.Coins) (f := cI) (z := v9) (u := x14) (by decide) rfl rfl ty_es22 hx14 ?_
        refine Olp (.i x14) ty_agg3 ty_sc3 ?_
        refine Oi (.b (decide (v3 ≥ x14))) ?_
        refine Om (.b (decide (v3 ≥ x14))) ?_
        rcases bft (decide (v3 ≥ x14)) with hb15 | hb15
        ·replace hM := ifT hM hb15
         refine Oy (want := true) hb15 ?_
         refine Om (.sl (.id (g + 2 + 0)) 1 (v2.map cI)) ?_
         refine Oy (want := true) hb15 ?_
         refine Om (.i v3) ?_
         refine Oy (want := true) hb15 ?_
         refine Of ((Wheel.cells a0)) ty_fo24_2 ?_
         refine Oy (want := true) hb15 ?_
         refine Olp (.sl .no 1 (a0.Coins.map cI)) ty_agg22 ty_sc22 ?_
         refine Oy (want := true) hb15 ?_
         refine Om (.i v9) ?_
         refine Oy (want := true) hb15 ?_
         obtain ⟨x16, hx16, hM⟩ := bindE hM
         refine o_index (xs := a0.Coins) (f := cI) (z := v9) (u := x16) (by decide) rfl rfl ty_es22 hx16 ?_
         refine Oy (want := true) hb15 ?_
         refine Olp (.i x16) ty_agg3 ty_sc3 ?_
         refine Oy (want := true) hb15 ?_
         refine Oi (.i (w64 (v3 - x16))) ?_
         refine Oy (want := true) hb15 ?_
         obtain ⟨x17, hx17, hM⟩ := bindE hM
         refine o_index (xs := v2) (f := cI) (z := (w64 (v3 - x16))) (u := x17) (by decide) rfl rfl ty_es22 hx17 ?_
         refine Oy (want := true) hb15 ?_
         refine Olp (.i x17) ty_agg3 ty_sc3 ?_
         refine Oy (want := true) hb15 ?_
         refine Oi (.b (x17 == 1)) ?_
         refine Pt (.b (x17 == 1)) hb15 ?_
         refine Ni ?_
         exact w_goto (x17 == 1) (.k (.k (.k (.k (.k (.k (.k .nil))))))) ⟨(hS.keep [true] rfl).up (by omega), hM⟩
        ·replace hM := ifF hM hb15
         refine On (want := true) hb15 ?_
         refine On (want := true) hb15 ?_
         refine On (want := true) hb15 ?_
         refine On (want := true) hb15 ?_
         refine On (want := true) hb15 ?_
         refine On (want := true) hb15 ?_
         refine On (want := true) hb15 ?_
         refine On (want := true) hb15 ?_
         refine On (want := true) hb15 ?_
         refine On (want := true) hb15 ?_
         refine On (want := true) hb15 ?_
         refine Pf (.b false) hb15 ?_
         refine Ni ?_
         exact w_goto false (.k (.k (.k (.k (.k (.k (.k .nil))))))) ⟨(hS.keep [true] rfl).up (by omega), hM⟩
     ·replace hM := ifF hM hb10
      refine Cf hb10 ?_
      refine r_exit ?_
      refine r_then_exit ?_
      refine w_round_exit ?_
      refine r_blk_exit ?_
      exact w_goto v8 (.k (.k (.k (.k (.k .nil))))) ⟨(hS.keep [true] rfl).up (by omega), hM⟩
  ·replace hM := ifF hM hb4
   refine Cf hb4 ?_
   refine r_exit ?_
   refine r_then_exit ?_
   refine w_round_exit ?_
   refine r_blk_exit ?_
   exact w_goto v2 (.k .nil) ⟨(hS.keep [true] rfl).up (by omega), hM⟩
theorem W_ref01_In {n : Nat} {a0 : List Int} {a1 : Int} {r : Bool} (hM : ref01_In n a0 a1 = some r) : PureSat Try.prog 27 [.sl .no 1 (a0.map cI), .i a1] (.b r) := by
 refine pure_of_wp mixed Try.func27 rfl (by decide) Try.ntmps27 (by simp) ?pure fun H0 g hf => ?_
 case pure => exact .v _
 rw [frame0_of]
 change wpA _ _ _ _ (Fr.of [(0, .sl .no 1 (a0.map cI)), (1, .i a1)]) H0 g
 have hS := St.start hf
 refine Sq ?_
 refine Rg 1 ?_
 refine Oa (.b false) ?_
 refine Ni ?_
 refine Ws ?_
 refine w_join (J := Unit) (fun j => []) (fun j H' g' => St (· < g) H0 [] H' g' ∧ ref01_In_j1 = some r) ?_ ?_
 ·rintro _ H g1 ⟨hS, hM⟩
  change wpA _ _ _ _ (Fr.of []) _ _
  replace hS : St (· < g) H0 [] H g1 := hS
  replace hM : ref01_In_j1 = some r := hM
  refine Sq ?_
  refine Rg 1 ?_
  refine Oa (.b false) ?_
  refine Ni ?_
  refine Ws ?_
  refine r_ret ?_
  refine w_end (x := .b false) (f := fun r => .b r) (.inr rfl) ?_ (.refl _) (Option.some.inj hM) hS
  exact (res_one (res_tmp (x := .b false) rfl))
 ·refine Sq ?_
  refine Rg 1 ?_
  refine Oa (.i 0) ?_
  refine Ni ?_
  refine Ws ?_
  refine r_block ?_
  refine w_loop (V := Int) (fun v => [(0, .sl .no 1 (a0.map cI)), (1, .i a1), (5, .i v)]) (fun v m2 H' g' => St (· < g) H0 [] H' g' ∧ ref01_In_l1 a0 a1 m2 v = some r) (n := n) 0 (.k (.k (.k .nil))) ⟨(hS.keep [] rfl).up (by omega), hM⟩ ?_
  rintro v1 m2 H g2 ⟨hS, hM⟩
  obtain _ | m2 := m2
  ·exact nomatch (show none = some _ from hM)
  change wpA _ _ _ _ (Fr.of [(0, .sl .no 1 (a0.map cI)), (1, .i a1), (5, .i v1)]) _ _
  replace hS : St (· < g) H0 [] H g2 := hS
  replace hM : ref01_In_l1_b a0 a1 (ref01_In_l1 a0 a1 m2) v1 = some r := hM
  refine Sq ?_
  refine Sq ?_
  refine Rg 4 ?_
  refine Om (.i v1) ?_
  refine Om (.sl .no 1 (a0.map cI)) ?_
  refine o_len (n := a0.length) (by decide) rfl (List.length_map _) ty_isl22 ?_
  refine Oi (.b (decide (v1 < (a0.length : Int)))) ?_
  refine Ni ?_
  refine Ws ?_
  rcases bft (decide (v1 < (a0.length : Int))) with hb2 | hb2
  ·replace hM := ifT hM hb2
   refine Ct hb2 ?_
   refine r_skip ?_
   refine Ws ?_
   refine Sq ?_
   refine r_block ?_
   refine Sq ?_
   refine Rg 6 ?_
   refine Om (.sl .no 1 (a0.map cI)) ?_
   refine Om (.i v1) ?_
   obtain ⟨x3, hx3, hM⟩ := bindE hM
   refine o_index (xs := a0) (f := cI) (z := v1) (u := x3) (by decide) rfl rfl ty_es22 hx3 ?_
   refine Olp (.i x3) ty_agg3 ty_sc3 ?_
   refine Om (.i a1) ?_
   refine Oi (.b (x3 == a1)) ?_
   refine Ni ?_
   refine Ws ?_
   rcases bft (x3 == a1) with hb4 | hb4
   ·replace hM := ifT hM hb4
    refine Ct hb4 ?_
    refine Sq ?_
    refine Rg 1 ?_
    refine Oa (.b true) ?_
    refine Ni ?_
    refine Ws ?_
    refine r_ret ?_
    refine r_blk_ret ?_
    refine r_then_ret ?_
    refine w_round_ret ?_
    refine r_blk_ret ?_
    refine w_goto_ret ?_
    refine w_end (x := .b true) (f := fun r => .b r) (.inr rfl) ?_ (.refl _) (Option.some.inj hM) hS
    exact (res_one (res_tmp (x := .b true) rfl))
   ·replace hM := ifF hM hb4
    refine Cf hb4 ?_
    refine r_skip ?_
    refine r_blk_normal ?_
    refine Ws ?_
    refine Rg 3 ?_
    refine Om (.i v1) ?_
    refine Oi (.i (w64 (v1 + 1))) ?_
    refine Oa (.i (w64 (v1 + 1))) ?_
    refine Ni ?_
    exact w_round (w64 (v1 + 1)) (Nat.lt_succ_self _) (.k (.k (.k .nil))) ⟨(hS.keep [] rfl).up (by omega), hM⟩
  ·replace hM := ifF hM hb2
   refine Cf hb2 ?_
   refine r_exit ?_
   refine r_then_exit ?_
   refine w_round_exit ?_
   refine r_blk_exit ?_
   exact w_goto () .nil ⟨(hS.keep [] rfl).up (by omega), hM⟩
theorem W_ref01_Put {n : Nat} {a0 : Wheel} {a1 : Int} {a2 : Int} {r : Int × Int} (hM : ref01_Put n a0 a1 a2 = some r) : PureSat Try.prog 63 [.agg (Wheel.cells a0), .i a1, .i a2] (.tup [.i r.1, .i r.2]) := by
 refine pure_of_wp mixed Try.func63 rfl (by decide) Try.ntmps63 (by simp) ?pure fun H0 g hf => ?_
 case pure => exact .tup _ (pl_cons (.v _) (pl_cons (.v _) pl_nil))
 rw [frame0_of]
 change wpA _ _ _ _ (Fr.of [(0, .agg (Wheel.cells a0)), (1, .i a1), (2, .i a2)]) H0 g
 have hS := St.start hf
 refine Sq ?_
 refine Rg 3 ?_
 refine o_box (v := .agg (Wheel.cells a0)) (cs := (Wheel.cells a0)) hS (by decide) rfl rfl (by omega) fun H hS => ?_
 refine Oa (.i 0) ?_
 refine Oa (.i 0) ?_
 refine Ni ?_
 refine w_iceE (L' := []) 0 3 hS rfl rfl rfl fun H hS => ?_
 refine Ws ?_
 refine w_join (J := Int × Int) (fun j => [(1, .i j.1), (7, .i j.2)]) (fun j H' g' => St (· < g) H0 [] H' g' ∧ ref01_Put_j1 j.1 j.2 = some r) ?_ ?_
 ·rintro ⟨v1, v2⟩ H g1 ⟨hS, hM⟩
  change wpA _ _ _ _ (Fr.of [(1, .i v1), (7, .i v2)]) _ _
  replace hS : St (· < g) H0 [] H g1 := hS
  replace hM : ref01_Put_j1 v1 v2 = some r := hM
  refine Sq ?_
  refine Rg 4 ?_
  refine Om (.i v1) ?_
  refine Om (.i v2) ?_
  refine Oa (.i v1) ?_
  refine Oa (.i v2) ?_
  refine Ni ?_
  refine Ws ?_
  refine r_ret ?_
  refine w_end (x := .tup [.i v1, .i v2]) (f := fun r => .tup [.i r.1, .i r.2]) (.inr rfl) ?_ (.refl _) (Option.some.inj hM) hS
  exact (res_two (res_tmp (x := .i v1) rfl) (res_tmp (x := .i v2) rfl))
 ·refine Sq ?_
  refine Rg 1 ?_
  refine Oa (.i 0) ?_
  refine Ni ?_
  refine Ws ?_
  refine r_block ?_
  refine w_loop (V := Int × Int × Int) (fun v => [(1, .i v.1), (2, .i a2), (3, .ep (Wheel.cells a0)), (7, .i v.2.1), (8, .i v.2.2)]) (fun v m2 H' g' => St (· < g) H0 [] H' g' ∧ ref01_Put_l1 n a0 a2 m2 v.1 v.2.1 v.2.2 = some r) (n := n) (a1, 0, 0) (.k (.k (.k (.k (.k .nil))))) ⟨(hS.keep [] rfl).up (by omega), hM⟩ ?_
  rintro ⟨v3, v4, v5⟩ m2 H g2 ⟨hS, hM⟩
  obtain _ | m2 := m2
  ·exact nomatch (show none = some _ from hM)
  change wpA _ _ _ _ (Fr.of [(1, .i v3), (2, .i a2), (3, .ep (Wheel.cells a0)), (7, .i v4), (8, .i v5)]) _ _
  replace hS : St (· < g) H0 [] H g2 := hS
  replace hM : ref01_Put_l1_b n a0 a2 (ref01_Put_l1 n a0 a2 m2) v3 v4 v5 = some r := hM
  refine Sq ?_
  refine Sq ?_
  refine Rg 3 ?_
  refine Om (.i v5) ?_
  refine Om (.i a2) ?_
  refine Oi (.b (decide (v5 < a2))) ?_
  refine Ni ?_
  refine Ws ?_
  rcases bft (decide (v5 < a2)) with hb6 | hb6
  ·replace hM := ifT hM hb6
   refine Ct hb6 ?_
   refine r_skip ?_
   refine Ws ?_
   refine w_join (J := Int × Int) (fun j => [(1, .i j.1), (2, .i a2), (3, .ep (Wheel.cells a0)), (7, .i j.2), (8, .i v5)]) (fun j H' g' => St (· < g) H0 [] H' g' ∧ ref01_Put_j2 (ref01_Put_l1 n a0 a2 m2) v5 j.1 j.2 = some r) ?_ ?_
   ·rintro ⟨v7, v8⟩ H g3 ⟨hS, hM⟩
    change wpA _ _ _ _ (Fr.of [(1, .i v7), (2, .i a2), (3, .ep (Wheel.cells a0)), (7, .i v8), (8, .i v5)]) _ _
    replace hS : St (· < g) H0 [] H g3 := hS
    replace hM : ref01_Put_j2 (ref01_Put_l1 n a0 a2 m2) v5 v7 v8 = some r := hM
    refine Rg 3 ?_
    refine Om (.i v5) ?_
    refine Oi (.i (w64 (v5 + 1))) ?_
    refine Oa (.i (w64 (v5 + 1))) ?_
    refine Ni ?_
    exact w_round (v7, v8, w64 (v5 + 1)) (Nat.lt_succ_self _) (.k (.k (.k (.k (.k .nil))))) ⟨(hS.keep [] rfl).up (by omega), hM⟩
   ·refine r_block ?_
    refine Sq ?_
    refine Rg 3 ?_
    refine Om (.i v3) ?_
    refine Oi (.i (w64 (v3 + 1))) ?_
    refine Oa (.i (w64 (v3 + 1))) ?_
    refine Ni ?_
    refine Ws ?_
    refine w_join (J := Int) (fun j => [(1, .i (w64 (v3 + 1))), (2, .i a2), (3, .ep (Wheel.cells a0)), (7, .i j), (8, .i v5)]) (fun j H' g' => St (· < g) H0 [] H' g' ∧ ref01_Put_j3 (ref01_Put_l1 n a0 a2 m2) a0 v3 v5 j = some r) ?_ ?_
    ·rintro v9 H g4 ⟨hS, hM⟩
     change wpA _ _ _ _ (Fr.of [(1, .i (w64 (v3 + 1))), (2, .i a2), (3, .ep (Wheel.cells a0)), (7, .i v9), (8, .i v5)]) _ _
     replace hS : St (· < g) H0 [] H g4 := hS
     replace hM : ref01_Put_j3 (ref01_Put_l1 n a0 a2 m2) a0 v3 v5 v9 = some r := hM
     refine Sq ?_
     refine Rg 4 ?_
     refine Om (.i (w64 (v3 + 1))) ?_
     refine Of ((Wheel.cells a0)) ty_fo24_0 ?_
     refine Olp (.i a0.Round) ty_agg3 ty_sc3 ?_
     refine Oi (.b ((w64 (v3 + 1)) == a0.Round)) ?_
     refine Ni ?_
     refine Ws ?_
     rcases bft ((w64 (v3 + 1)) == a0.Round) with hb10 | hb10
     ·replace hM := ifT hM hb10
      refine Ct hb10 ?_
      refine Rg 1 ?_
      refine Oa (.i 0) ?_
      refine Ni ?_
      refine r_blk_normal ?_
      exact w_goto (0, v9) (.k (.k (.k (.k (.k .nil))))) ⟨(hS.keep [] rfl).up (by omega), hM⟩
     ·replace hM := ifF hM hb10
      refine Cf hb10 ?_
      refine r_skip ?_
      refine r_blk_normal ?_
      exact w_goto (w64 (v3 + 1), v9) (.k (.k (.k (.k (.k .nil))))) ⟨(hS.keep [] rfl).up (by omega), hM⟩
    ·refine Sq ?_
     refine Rg 4 ?_
     refine Of ((Wheel.cells a0)) ty_fo24_1 ?_
     refine Olp (.sl .no 1 (a0.Notches.map cI)) ty_agg22 ty_sc22 ?_
     refine Om (.i (w64 (v3 + 1))) ?_
     obtain ⟨r11, hr11, hM⟩ := bindE hM
     refine o_call (bs := [.sl .no 1 (a0.Notches.map cI), .i (w64 (v3 + 1))]) (by decide) rfl rfl ((W_ref01_In hr11).le (.k (.k .nil))) ?_
     refine Ni ?_
     refine Ws ?_
     rcases bft r11 with hb12 | hb12
     ·replace hM := ifT hM hb12
      refine Ct hb12 ?_
      refine Rg 3 ?_
      refine Om (.i v4) ?_
      refine Oi (.i (w64 (v4 + 1))) ?_
      refine Oa (.i (w64 (v4 + 1))) ?_
      refine Ni ?_
      exact w_goto (w64 (v4 + 1)) (.k (.k (.k (.k (.k .nil))))) ⟨(hS.keep [] rfl).up (by omega), hM⟩
     ·replace hM := ifF hM hb12
      refine Cf hb12 ?_
      refine r_skip ?_
      exact w_goto v4 (.k (.k (.k (.k (.k .nil))))) ⟨(hS.keep [] rfl).up (by omega), hM⟩
  ·replace hM := ifF hM hb6
   refine Cf hb6 ?_
   refine r_exit ?_
   refine r_then_exit ?_
   refine w_round_exit ?_
   refine r_blk_exit ?_
   exact w_goto (v3, v4) (.k (.k .nil)) ⟨(hS.keep [] rfl).up (by omega), hM⟩
theorem W_ref01_Cheapest {n : Nat} {a0 : Wheel} {a1 : Int} {r : Int × Int} (hM : ref01_Cheapest n a0 a1 = some r) : PureSat Try.prog 20 [.agg (Wheel.cells a0), .i a1] (.tup [.i r.1, .i r.2]) := by
 refine pure_of_wp mixed Try.func20 rfl (by decide) Try.ntmps20 (by simp) ?pure fun H0 g hf => ?_
 case pure => exact .tup _ (pl_cons (.v _) (pl_cons (.v _) pl_nil))
 rw [frame0_of]
 change wpA _ _ _ _ (Fr.of [(0, .agg (Wheel.cells a0)), (1, .i a1)]) H0 g
 have hS := St.start hf
 refine Sq ?_
 refine Rg 3 ?_
 refine o_box (v := .agg (Wheel.cells a0)) (cs := (Wheel.cells a0)) hS (by decide) rfl rfl (by omega) fun H hS => ?_
 refine Oa (.i 0) ?_
 refine Oa (.i 0) ?_
 refine Ni ?_
 refine w_iceE (L' := []) 0 2 hS rfl rfl rfl fun H hS => ?_
 refine Ws ?_
 refine Sq ?_
 refine Sq ?_
 refine Rg 3 ?_
 refine Olg (.agg (Wheel.cells a0)) ty_agg24 ?_
 obtain ⟨r1, hr1, hM⟩ := bindE hM
 refine o_call (bs := [.agg (Wheel.cells a0)]) (by decide) rfl rfl ((W_ref01_Check hr1).le (.k .nil)) ?_
 refine Oa (.i r1) ?_
 refine Ni ?_
 refine Ws ?_
 refine Sq ?_
 refine Rg 2 ?_
 refine Om (.i r1) ?_
 refine Oi (.b (r1 != 0)) ?_
 refine Ni ?_
 refine Ws ?_
 rcases bft (r1 != 0) with hb2 | hb2
 ·replace hM := ifT hM hb2
  refine Ct hb2 ?_
  refine Sq ?_
  refine Rg 3 ?_
  refine Om (.i r1) ?_
  refine Oa (.i 0) ?_
  refine Oa (.i r1) ?_
  refine Ni ?_
  refine Ws ?_
  refine r_ret ?_
  refine r_then_ret ?_
  refine w_end (x := .tup [.i 0, .i r1]) (f := fun r => .tup [.i r.1, .i r.2]) (.inr rfl) ?_ (.refl _) (Option.some.inj hM) hS
  exact (res_two (res_tmp (x := .i 0) rfl) (res_tmp (x := .i r1) rfl))
 ·replace hM := ifF hM hb2
  refine Cf hb2 ?_
  refine r_skip ?_
  refine Ws ?_
  refine Sq ?_
  refine Sq ?_
  refine Rg 3 ?_
  refine Om (.i a1) ?_
  obtain ⟨r3, hr3, hM⟩ := bindE hM
  refine o_call (bs := [.i a1, .i 1, .i 20]) (by decide) rfl rfl ((W_ref01_Within hr3).le (.k (.k (.k .nil)))) ?_
  refine o_not (e := r3) (by decide) rfl ?_
  refine Ni ?_
  refine Ws ?_
  rcases bft (!r3) with hb4 | hb4
  ·replace hM := ifT hM hb4
   refine Ct hb4 ?_
   refine Sq ?_
   refine Rg 2 ?_
   refine Oa (.i 0) ?_
   refine Oa (.i 1) ?_
   refine Ni ?_
   refine Ws ?_
   refine r_ret ?_
   refine r_then_ret ?_
   refine w_end (x := .tup [.i 0, .i 1]) (f := fun r => .tup [.i r.1, .i r.2]) (.inr rfl) ?_ (.refl _) (Option.some.inj hM) hS
   exact (res_two (res_tmp (x := .i 0) rfl) (res_tmp (x := .i 1) rfl))
  ·replace hM := ifF hM hb4
   refine Cf hb4 ?_
   refine r_skip ?_
   refine Ws ?_
   refine Sq ?_
   refine w_join (J := Bool) (fun j => [(1, .i a1), (2, .ep (Wheel.cells a0)), (35, .b j)]) (fun j H' g' => St (· < g) H0 [] H' g' ∧ ref01_Cheapest_j1 n a0 a1 j = some r) ?_ ?_
   ·rintro v5 H g1 ⟨hS, hM⟩
    change wpA _ _ _ _ (Fr.of [(1, .i a1), (2, .ep (Wheel.cells a0)), (35, .b v5)]) _ _
    replace hS : St (· < g) H0 [] H g1 := hS
    replace hM : ref01_Cheapest_j1 n a0 a1 v5 = some r := hM
    rcases bft v5 with hb6 | hb6
    ·replace hM := ifT hM hb6
     refine Ct hb6 ?_
     refine Sq ?_
     refine Rg 2 ?_
     refine Oa (.i 0) ?_
     refine Oa (.i 3) ?_
     refine Ni ?_
     refine Ws ?_
     refine r_ret ?_
     refine r_then_ret ?_
     refine w_end (x := .tup [.i 0, .i 3]) (f := fun r => .tup [.i r.1, .i r.2]) (.inr rfl) ?_ (.refl _) (Option.some.inj hM) hS
     exact (res_two (res_tmp (x := .i 0) rfl) (res_tmp (x := .i 3) rfl))
    ·replace hM := ifF hM hb6
     refine Cf hb6 ?_
     refine r_skip ?_
     refine Ws ?_
     refine Sq ?_
     refine Rg 3 ?_
     refine Olg (.agg (Wheel.cells a0)) ty_agg24 ?_
     obtain ⟨r7, hr7, hM⟩ := bindE hM
     refine o_call (bs := [.agg (Wheel.cells a0), .i 4100]) (by decide) rfl rfl ((W_ref01_can hr7).le (.k (.k .nil))) ?_
     refine Oa (.sl .no 1 (r7.map cI)) ?_
     refine Ni ?_
     refine Ws ?_
     refine Sq ?_
     refine Rg 2 ?_
     refine o_buildSlice (es := [[.i 0]]) hS (by decide) ty_es22 ty_el22 rfl ty_ef22 rfl (by decide) (by omega) fun H hS => ?_
     refine Oa (.sl (.id (g1 + 3 + 0)) 1 (([0] : List Int).map cI)) ?_
     refine Ni ?_
     refine Ws ?_
     refine Sq ?_
     refine Rg 2 ?_
     refine Oa (.i 0) ?_
     refine Oa (.i 0) ?_
     refine Ni ?_
     refine Ws ?_
     refine w_join (J := (List Int)) (fun j => [(1, .i a1), (8, .sl (.id (g1 + 3 + 0)) 1 (j.map cI))]) (fun j H' g' => St (· < g) H0 [(g1 + 3 + 0, .row 3 j.length)] H' g' ∧ ref01_Cheapest_j2 n a1 j = some r) ?_ ?_
     ·rintro v8 H g2 ⟨hS, hM⟩
      change wpA _ _ _ _ (Fr.of [(1, .i a1), (8, .sl (.id (g1 + 3 + 0)) 1 (v8.map cI))]) _ _
      replace hS : St (· < g) H0 [(g1 + 3 + 0, .row 3 v8.length)] H g2 := hS
      replace hM : ref01_Cheapest_j2 n a1 v8 = some r := hM
      refine Sq ?_
      refine Rg 2 ?_
      refine o_buildSlice (es := [[.i 0]]) hS (by decide) ty_es22 ty_el22 rfl ty_ef22 rfl (by decide) (by omega) fun H hS => ?_
      refine Oa (.sl (.id (g2 + 0)) 1 (([0] : List Int).map cI)) ?_
      refine Ni ?_
      refine Ws ?_
      refine w_join (J := (List Int)) (fun j => [(1, .i a1), (14, .sl (.id (g2 + 0)) 1 (j.map cI))]) (fun j H' g' => St (· < g) H0 [(g2 + 0, .row 3 j.length)] H' g' ∧ ref01_Cheapest_j3 a1 j = some r) ?_ ?_
      ·rintro v9 H g3 ⟨hS, hM⟩
       change wpA _ _ _ _ (Fr.of [(1, .i a1), (14, .sl (.id (g2 + 0)) 1 (v9.map cI))]) _ _
       replace hS : St (· < g) H0 [(g2 + 0, .row 3 v9.length)] H g3 := hS
       replace hM : ref01_Cheapest_j3 a1 v9 = some r := hM
       refine Sq ?_
       refine Rg 6 ?_
       refine Om (.sl (.id (g2 + 0)) 1 (v9.map cI)) ?_
       refine Om (.i a1) ?_
       obtain ⟨x10, hx10, hM⟩ := bindE hM
       refine o_index (xs := v9) (f := cI) (z := a1) (u := x10) (by decide) rfl rfl ty_es22 hx10 ?_
       refine Olp (.i x10) ty_agg3 ty_sc3 ?_
       refine Oa (.i x10) ?_
       refine Oa (.i 0) ?_
       refine Ni ?_
       replace hS := hS.keep (L' := []) [false] rfl
       refine Ws ?_
       refine r_ret ?_
       refine w_end (x := .tup [.i x10, .i 0]) (f := fun r => .tup [.i r.1, .i r.2]) (.inr rfl) ?_ (.refl _) (Option.some.inj hM) hS
       exact (res_two (res_tmp (x := .i x10) rfl) (res_tmp (x := .i 0) rfl))
      ·refine Sq ?_
       refine Rg 1 ?_
       refine Oa (.i 1) ?_
       refine Ni ?_
       refine Ws ?_
       refine r_block ?_
       refine w_loop (V := (List Int) × Int) (fun v => [(1, .i a1), (8, .sl (.id (g1 + 3 + 0)) 1 (v8.map cI)), (14, .sl (.id (g2 + 0)) 1 (v.1.map cI)), (15, .i v.2)]) (fun v m4 H' g' => St (· < g) H0 [(g2 + 0, .row 3 v.1.length), (g1 + 3 + 0, .row 3 v8.length)] H' g' ∧ ref01_Cheapest_l1 n a1 v8 m4 v.1 v.2 = some r) (n := n) (([0] : List Int), 1) (.k (.k (.k (.k .nil)))) ⟨(hS.keep [true, true] rfl).up (by omega), hM⟩ ?_
       rintro ⟨v11, v12⟩ m4 H g4 ⟨hS, hM⟩
       obtain _ | m4 := m4
       ·exact nomatch (show none = some _ from hM)
       change wpA _ _ _ _ (Fr.of [(1, .i a1), (8, .sl (.id (g1 + 3 + 0)) 1 (v8.map cI)), (14, .sl (.id (g2 + 0)) 1 (v11.map cI)), (15, .i v12)]) _ _
       replace hS : St (· < g) H0 [(g2 + 0, .row 3 v11.length), (g1 + 3 + 0, .row 3 v8.length)] H g4 := hS
       replace hM : ref01_Cheapest_l1_b n a1 v8 (ref01_Cheapest_l1 n a1 v8 m4) v11 v12 = some r := hM
       refine Sq ?_
       refine Sq ?_
       refine Rg 3 ?_
       refine Om (.i v12) ?_
       refine Om (.i a1) ?_
       refine Oi (.b (decide (v12 ≤ a1))) ?_
       refine Ni ?_
       refine Ws ?_
       rcases bft (decide (v12 ≤ a1)) with hb13 | hb13
       ·replace hM := ifT hM hb13
        refine Ct hb13 ?_
        refine r_skip ?_
        refine Ws ?_
        refine w_join (J := (List Int)) (fun j => [(1, .i a1), (8, .sl (.id (g1 + 3 + 0)) 1 (v8.map cI)), (14, .sl (.id (g2 + 0)) 1 (j.map cI)), (15, .i v12)]) (fun j H' g' => St (· < g) H0 [(g2 + 0, .row 3 j.length), (g1 + 3 + 0, .row 3 v8.length)] H' g' ∧ ref01_Cheapest_j4 (ref01_Cheapest_l1 n a1 v8 m4) v12 j = some r) ?_ ?_
        ·rintro v14 H g5 ⟨hS, hM⟩
         change wpA _ _ _ _ (Fr.of [(1, .i a1), (8, .sl (.id (g1 + 3 + 0)) 1 (v8.map cI)), (14, .sl (.id (g2 + 0)) 1 (v14.map cI)), (15, .i v12)]) _ _
         replace hS : St (· < g) H0 [(g2 + 0, .row 3 v14.length), (g1 + 3 + 0, .row 3 v8.length)] H g5 := hS
         replace hM : ref01_Cheapest_j4 (ref01_Cheapest_l1 n a1 v8 m4) v12 v14 = some r := hM
         refine Rg 3 ?_
         refine Om (.i v12) ?_
         refine Oi (.i (w64 (v12 + 1))) ?_
         refine Oa (.i (w64 (v12 + 1))) ?_
         refine Ni ?_
         exact w_round (v14, w64 (v12 + 1)) (Nat.lt_succ_self _) (.k (.k (.k (.k .nil)))) ⟨(hS.keep [true, true] rfl).up (by omega), hM⟩
        ·refine r_block ?_
         refine Sq ?_
         refine Rg 5 ?_
         refine Om (.sl (.id (g1 + 3 + 0)) 1 (v8.map cI)) ?_
         refine Om (.i v12) ?_
         obtain ⟨x15, hx15, hM⟩ := bindE hM
         refine o_index (xs := v8) (f := cI) (z := v12) (u := x15) (by decide) rfl rfl ty_es22 hx15 ?_
         refine Olp (.i x15) ty_agg3 ty_sc3 ?_
         refine Oa (.i x15) ?_
         refine Ni ?_
         refine Ws ?_
         refine w_join (J := Int) (fun j => [(1, .i a1), (8, .sl (.id (g1 + 3 + 0)) 1 (v8.map cI)), (14, .sl (.id (g2 + 0)) 1 (v11.map cI)), (15, .i v12), (16, .i j)]) (fun j H' g' => St (· < g) H0 [(g2 + 0, .row 3 v11.length), (g1 + 3 + 0, .row 3 v8.length)] H' g' ∧ ref01_Cheapest_j5 (ref01_Cheapest_l1 n a1 v8 m4) v11 v12 j = some r) ?_ ?_
         ·rintro v16 H g6 ⟨hS, hM⟩
          change wpA _ _ _ _ (Fr.of [(1, .i a1), (8, .sl (.id (g1 + 3 + 0)) 1 (v8.map cI)), (14, .sl (.id (g2 + 0)) 1 (v11.map cI)), (15, .i v12), (16, .i v16)]) _ _
          replace hS : St (· < g) H0 [(g2 + 0, .row 3 v11.length), (g1 + 3 + 0, .row 3 v8.length)] H g6 := hS
          replace hM : ref01_Cheapest_j5 (ref01_Cheapest_l1 n a1 v8 m4) v11 v12 v16 = some r := hM
          refine Rg 5 ?_
          refine Om (.sl (.id (g2 + 0)) 1 (v11.map cI)) ?_
          refine Om (.i v16) ?_
          refine o_buildSlice (es := [[.i v16]]) hS (by decide) ty_es22 ty_el22 rfl ty_ef22 rfl (by decide) (by omega) fun H hS => ?_
          obtain ⟨l17, hl17, hM⟩ := bindE hM
          refine o_append (xs := v11) (ys := ([v16] : List Int)) (zs := l17) (f := cI) (L' := [(g6 + 2, .row 3 1), (g2 + 0, .row 3 l17.length), (g1 + 3 + 0, .row 3 v8.length)]) 1 hS (by decide) rfl rfl rfl rfl .no ty_es22 ty_el22 ty_ef22 hl17 rfl fun H hS => ?_
          refine Oa (.sl (.id (g2 + 0)) 1 (l17.map cI)) ?_
          refine Ni ?_
          refine r_blk_normal ?_
          exact w_goto l17 (.k (.k (.k (.k .nil)))) ⟨(hS.keep [false, true, true] rfl).up (by omega), hM⟩
         ·refine Sq ?_
          refine Rg 1 ?_
          refine Oa (.i 1) ?_
          refine Ni ?_
          refine Ws ?_
          refine r_block ?_
          refine w_loop (V := Int × Int) (fun v => [(1, .i a1), (8, .sl (.id (g1 + 3 + 0)) 1 (v8.map cI)), (14, .sl (.id (g2 + 0)) 1 (v11.map cI)), (15, .i v12), (16, .i v.1), (17, .i v.2)]) (fun v m7 H' g' => St (· < g) H0 [(g2 + 0, .row 3 v11.length), (g1 + 3 + 0, .row 3 v8.length)] H' g' ∧ ref01_Cheapest_l2 (ref01_Cheapest_l1 n a1 v8 m4) v8 v11 v12 m7 v.1 v.2 = some r) (n := n) (x15, 1) (.k (.k (.k (.k (.k (.k .nil)))))) ⟨(hS.keep [true, true] rfl).up (by omega), hM⟩ ?_
          rintro ⟨v18, v19⟩ m7 H g7 ⟨hS, hM⟩
          obtain _ | m7 := m7
          ·exact nomatch (show none = some _ from hM)
          change wpA _ _ _ _ (Fr.of [(1, .i a1), (8, .sl (.id (g1 + 3 + 0)) 1 (v8.map cI)), (14, .sl (.id (g2 + 0)) 1 (v11.map cI)), (15, .i v12), (16, .i v18), (17, .i v19)]) _ _
          replace hS : St (· < g) H0 [(g2 + 0, .row 3 v11.length), (g1 + 3 + 0, .row 3 v8.length)] H g7 := hS
          replace hM : ref01_Cheapest_l2_b (ref01_Cheapest_l1 n a1 v8 m4) v8 v11 v12 (ref01_Cheapest_l2 (ref01_Cheapest_l1 n a1 v8 m4) v8 v11 v12 m7) v18 v19 = some r := hM
          refine Sq ?_
          refine Sq ?_
          refine Rg 3 ?_
          refine Om (.i v19) ?_
          refine Om (.i v12) ?_
          refine Oi (.b (decide (v19 < v12))) ?_
          refine Ni ?_
          refine Ws ?_
          rcases bft (decide (v19 < v12)) with hb20 | hb20
          ·replace hM := ifT hM hb20
           refine Ct hb20 ?_
           refine r_skip ?_
           refine Ws ?_
           refine Sq ?_
           refine r_block ?_
           have hS0 := hS
           refine r_draw (n := 14) rfl (by kernel_rfl) ?_
           refine Om (.i v18) ?_
           refine Om (.sl (.id (g1 + 3 + 0)) 1 (v8.map cI)) ?_
           refine Om (.i v19) ?_
           obtain ⟨x21, hx21, hM⟩ := bindE hM
           refine o_index (xs := v8) (f := cI) (z := v19) (u := x21) (by decide) rfl rfl ty_es22 hx21 ?_
           refine Olp (.i x21) ty_agg3 ty_sc3 ?_
           refine Om (.sl (.id (g2 + 0)) 1 (v11.map cI)) ?_
           refine Om (.i v12) ?_
           refine Om (.i v19) ?_
           refine Oi (.i (w64 (v12 - v19))) ?_
           obtain ⟨x22, hx22, hM⟩ := bindE hM
           refine o_index (xs := v11) (f := cI) (z := (w64 (v12 - v19))) (u := x22) (by decide) rfl rfl ty_es22 hx22 ?_
           refine Olp (.i x22) ty_agg3 ty_sc3 ?_
           refine Oi (.i (w64 (x21 + x22))) ?_
           refine o_min (v := .i (min v18 (w64 (x21 + x22)))) (by decide) rfl ?_
           refine Oa (.i (min v18 (w64 (x21 + x22)))) ?_
           refine Ni ?_
           refine r_blk_normal ?_
           refine Ws ?_
           refine Rg 3 ?_
           refine Om (.i v19) ?_
           refine Oi (.i (w64 (v19 + 1))) ?_
           refine Oa (.i (w64 (v19 + 1))) ?_
           refine Ni ?_
           exact w_round ((min v18 (w64 (x21 + x22))), w64 (v19 + 1)) (Nat.lt_succ_self _) (.k (.k (.k (.k (.k (.k .nil)))))) ⟨(hS.keep [true, true] rfl).up (by omega), hM⟩
          ·replace hM := ifF hM hb20
           refine Cf hb20 ?_
           refine r_exit ?_
           refine r_then_exit ?_
           refine w_round_exit ?_
           refine r_blk_exit ?_
           exact w_goto v18 (.k (.k (.k (.k (.k .nil))))) ⟨(hS.keep [true, true] rfl).up (by omega), hM⟩
       ·replace hM := ifF hM hb13
        refine Cf hb13 ?_
        refine r_exit ?_
        refine r_then_exit ?_
        refine w_round_exit ?_
        refine r_blk_exit ?_
        exact w_goto v11 (.k (.k .nil)) ⟨(hS.keep [true, false] rfl).up (by omega), hM⟩
     ·refine Sq ?_
      refine Rg 1 ?_
      refine Oa (.i 1) ?_
      refine Ni ?_
      refine Ws ?_
      refine r_block ?_
      refine w_loop (V := (List Int) × Int × Int × Int) (fun v => [(1, .i a1), (2, .ep (Wheel.cells a0)), (7, .sl .no 1 (r7.map cI)), (8, .sl (.id (g1 + 3 + 0)) 1 (v.1.map cI)), (9, .i v.2.1), (10, .i v.2.2.1), (11, .i v.2.2.2)]) (fun v m8 H' g' => St (· < g) H0 [(g1 + 3 + 0, .row 3 v.1.length)] H' g' ∧ ref01_Cheapest_l3 n a0 a1 r7 m8 v.1 v.2.1 v.2.2.1 v.2.2.2 = some r) (n := n) (([0] : List Int), 0, 0, 1) (.k (.k (.k (.k (.k (.k (.k .nil))))))) ⟨(hS.keep [true] rfl).up (by omega), hM⟩ ?_
      rintro ⟨v23, v24, v25, v26⟩ m8 H g8 ⟨hS, hM⟩
      obtain _ | m8 := m8
      ·exact nomatch (show none = some _ from hM)
      change wpA _ _ _ _ (Fr.of [(1, .i a1), (2, .ep (Wheel.cells a0)), (7, .sl .no 1 (r7.map cI)), (8, .sl (.id (g1 + 3 + 0)) 1 (v23.map cI)), (9, .i v24), (10, .i v25), (11, .i v26)]) _ _
      replace hS : St (· < g) H0 [(g1 + 3 + 0, .row 3 v23.length)] H g8 := hS
      replace hM : ref01_Cheapest_l3_b n a0 a1 r7 (ref01_Cheapest_l3 n a0 a1 r7 m8) v23 v24 v25 v26 = some r := hM
      refine Sq ?_
      refine w_join (J := Bool) (fun j => [(1, .i a1), (2, .ep (Wheel.cells a0)), (7, .sl .no 1 (r7.map cI)), (8, .sl (.id (g1 + 3 + 0)) 1 (v23.map cI)), (9, .i v24), (10, .i v25), (11, .i v26), (48, .b j)]) (fun j H' g' => St (· < g) H0 [(g1 + 3 + 0, .row 3 v23.length)] H' g' ∧ ref01_Cheapest_j6 n (ref01_Cheapest_l3 n a0 a1 r7 m8) a0 a1 r7 v23 v24 v25 v26 j = some r) ?_ ?_
      ·rintro v27 H g9 ⟨hS, hM⟩
       change wpA _ _ _ _ (Fr.of [(1, .i a1), (2, .ep (Wheel.cells a0)), (7, .sl .no 1 (r7.map cI)), (8, .sl (.id (g1 + 3 + 0)) 1 (v23.map cI)), (9, .i v24), (10, .i v25), (11, .i v26), (48, .b v27)]) _ _
       replace hS : St (· < g) H0 [(g1 + 3 + 0, .row 3 v23.length)] H g9 := hS
       replace hM : ref01_Cheapest_j6 n (ref01_Cheapest_l3 n a0 a1 r7 m8) a0 a1 r7 v23 v24 v25 v26 v27 = some r := hM
       rcases bft v27 with hb28 | hb28
       ·replace hM := ifT hM hb28
        refine Ct hb28 ?_
        refine r_skip ?_
        refine Ws ?_
        refine w_join (J := (List Int) × Int × Int) (fun j => [(1, .i a1), (2, .ep (Wheel.cells a0)), (7, .sl .no 1 (r7.map cI)), (8, .sl (.id (g1 + 3 + 0)) 1 (j.1.map cI)), (9, .i j.2.1), (10, .i j.2.2), (11, .i v26)]) (fun j H' g' => St (· < g) H0 [(g1 + 3 + 0, .row 3 j.1.length)] H' g' ∧ ref01_Cheapest_j7 (ref01_Cheapest_l3 n a0 a1 r7 m8) v26 j.1 j.2.1 j.2.2 = some r) ?_ ?_
        ·rintro ⟨v29, v30, v31⟩ H g10 ⟨hS, hM⟩
         change wpA _ _ _ _ (Fr.of [(1, .i a1), (2, .ep (Wheel.cells a0)), (7, .sl .no 1 (r7.map cI)), (8, .sl (.id (g1 + 3 + 0)) 1 (v29.map cI)), (9, .i v30), (10, .i v31), (11, .i v26)]) _ _
         replace hS : St (· < g) H0 [(g1 + 3 + 0, .row 3 v29.length)] H g10 := hS
         replace hM : ref01_Cheapest_j7 (ref01_Cheapest_l3 n a0 a1 r7 m8) v26 v29 v30 v31 = some r := hM
         refine Rg 3 ?_
         refine Om (.i v26) ?_
         refine Oi (.i (w64 (v26 + 1))) ?_
         refine Oa (.i (w64 (v26 + 1))) ?_
         refine Ni ?_
         exact w_round (v29, v30, v31, w64 (v26 + 1)) (Nat.lt_succ_self _) (.k (.k (.k (.k (.k (.k (.k .nil))))))) ⟨(hS.keep [true] rfl).up (by omega), hM⟩
        ·refine r_block ?_
         refine Sq ?_
         refine Rg 8 ?_
         refine Olg (.agg (Wheel.cells a0)) ty_agg24 ?_
         refine Om (.i v24) ?_
         obtain ⟨r32, hr32, hM⟩ := bindE hM
         refine o_call (bs := [.agg (Wheel.cells a0), .i v24, .i 1]) (by decide) rfl rfl ((W_ref01_Put hr32).le (.k (.k (.k .nil)))) ?_
         refine Om (.tup [.i r32.1, .i r32.2]) ?_
         refine Ox (.i r32.1) ?_
         refine Ox (.i r32.2) ?_
         refine Oa (.i r32.1) ?_
         refine Oa (.i r32.2) ?_
         refine Ni ?_
         refine Ws ?_
         refine Sq ?_
         refine Rg 6 ?_
         refine Om (.i r32.1) ?_
         refine Om (.i v25) ?_
         refine Om (.i r32.2) ?_
         refine Oi (.i (w64 (v25 + r32.2))) ?_
         refine Oa (.i r32.1) ?_
         refine Oa (.i (w64 (v25 + r32.2))) ?_
         refine Ni ?_
         refine Ws ?_
         refine r_block ?_
         refine w_loop (V := (List Int)) (fun v => [(1, .i a1), (2, .ep (Wheel.cells a0)), (7, .sl .no 1 (r7.map cI)), (8, .sl (.id (g1 + 3 + 0)) 1 (v.map cI)), (9, .i r32.1), (10, .i (w64 (v25 + r32.2))), (11, .i v26)]) (fun v m11 H' g' => St (· < g) H0 [(g1 + 3 + 0, .row 3 v.length)] H' g' ∧ ref01_Cheapest_l4 (ref01_Cheapest_l3 n a0 a1 r7 m8) a1 r7 v25 v26 r32 m11 v = some r) (n := n) v23 (.k (.k (.k (.k (.k (.k (.k .nil))))))) ⟨(hS.keep [true] rfl).up (by omega), hM⟩ ?_
         rintro v33 m11 H g11 ⟨hS, hM⟩
         obtain _ | m11 := m11
         ·exact nomatch (show none = some _ from hM)
         change wpA _ _ _ _ (Fr.of [(1, .i a1), (2, .ep (Wheel.cells a0)), (7, .sl .no 1 (r7.map cI)), (8, .sl (.id (g1 + 3 + 0)) 1 (v33.map cI)), (9, .i r32.1), (10, .i (w64 (v25 + r32.2))), (11, .i v26)]) _ _
         replace hS : St (· < g) H0 [(g1 + 3 + 0, .row 3 v33.length)] H g11 := hS
         replace hM : ref01_Cheapest_l4_b (ref01_Cheapest_l3 n a0 a1 r7 m8) a1 r7 v25 v26 r32 (ref01_Cheapest_l4 (ref01_Cheapest_l3 n a0 a1 r7 m8) a1 r7 v25 v26 r32 m11) v33 = some r := hM
         refine Sq ?_
         refine w_join (J := Bool) (fun j => [(1, .i a1), (2, .ep (Wheel.cells a0)), (7, .sl .no 1 (r7.map cI)), (8, .sl (.id (g1 + 3 + 0)) 1 (v33.map cI)), (9, .i r32.1), (10, .i (w64 (v25 + r32.2))), (11, .i v26), (73, .b j)]) (fun j H' g' => St (· < g) H0 [(g1 + 3 + 0, .row 3 v33.length)] H' g' ∧ ref01_Cheapest_j8 (ref01_Cheapest_l3 n a0 a1 r7 m8) (ref01_Cheapest_l4 (ref01_Cheapest_l3 n a0 a1 r7 m8) a1 r7 v25 v26 r32 m11) v25 v26 r32 v33 j = some r) ?_ ?_
         ·rintro v34 H g12 ⟨hS, hM⟩
          change wpA _ _ _ _ (Fr.of [(1, .i a1), (2, .ep (Wheel.cells a0)), (7, .sl .no 1 (r7.map cI)), (8, .sl (.id (g1 + 3 + 0)) 1 (v33.map cI)), (9, .i r32.1), (10, .i (w64 (v25 + r32.2))), (11, .i v26), (73, .b v34)]) _ _
          replace hS : St (· < g) H0 [(g1 + 3 + 0, .row 3 v33.length)] H g12 := hS
          replace hM : ref01_Cheapest_j8 (ref01_Cheapest_l3 n a0 a1 r7 m8) (ref01_Cheapest_l4 (ref01_Cheapest_l3 n a0 a1 r7 m8) a1 r7 v25 v26 r32 m11) v25 v26 r32 v33 v34 = some r := hM
          rcases bft v34 with hb35 | hb35
          ·replace hM := ifT hM hb35
           refine Ct hb35 ?_
           refine r_skip ?_
           refine Ws ?_
           refine r_block ?_
           refine Rg 5 ?_
           refine Om (.sl (.id (g1 + 3 + 0)) 1 (v33.map cI)) ?_
           refine Om (.i v26) ?_
           refine o_buildSlice (es := [[.i v26]]) hS (by decide) ty_es22 ty_el22 rfl ty_ef22 rfl (by decide) (by omega) fun H hS => ?_
           obtain ⟨l36, hl36, hM⟩ := bindE hM
           refine o_append (xs := v33) (ys := ([v26] : List Int)) (zs := l36) (f := cI) (L' := [(g12 + 2, .row 3 1), (g1 + 3 + 0, .row 3 l36.length)]) 1 hS (by decide) rfl rfl rfl rfl .no ty_es22 ty_el22 ty_ef22 hl36 rfl fun H hS => ?_
           refine Oa (.sl (.id (g1 + 3 + 0)) 1 (l36.map cI)) ?_
           refine Ni ?_
           refine r_blk_normal ?_
           exact w_round l36 (Nat.lt_succ_self _) (.k (.k (.k (.k (.k (.k (.k .nil))))))) ⟨(hS.keep [false, true] rfl).up (by omega), hM⟩
          ·replace hM := ifF hM hb35
           refine Cf hb35 ?_
           refine r_exit ?_
           refine r_then_exit ?_
           refine w_round_exit ?_
           refine r_blk_exit ?_
           refine r_blk_normal ?_
           exact w_goto (v33, r32.1, w64 (v25 + r32.2)) (.k (.k (.k (.k (.k (.k (.k .nil))))))) ⟨(hS.keep [true] rfl).up (by omega), hM⟩
         ·refine Rg 13 ?_
          refine Om (.sl .no 1 (r7.map cI)) ?_
          refine Om (.i v26) ?_
          obtain ⟨x37, hx37, hM⟩ := bindE hM
          refine o_index (xs := r7) (f := cI) (z := v26) (u := x37) (by decide) rfl rfl ty_es22 hx37 ?_
          refine Olp (.i x37) ty_agg3 ty_sc3 ?_
          refine Oi (.b (x37 == 1)) ?_
          refine Om (.b (x37 == 1)) ?_
          rcases bft (x37 == 1) with hb38 | hb38
          ·replace hM := ifT hM hb38
           refine Oy (want := true) hb38 ?_
           refine Om (.sl (.id (g1 + 3 + 0)) 1 (v33.map cI)) ?_
           refine Oy (want := true) hb38 ?_
           refine o_len (n := v33.length) (by decide) rfl (List.length_map _) ty_isl22 ?_
           refine Oy (want := true) hb38 ?_
           refine Om (.i (w64 (v25 + r32.2))) ?_
           refine Oy (want := true) hb38 ?_
           refine Om (.i a1) ?_
           refine Oy (want := true) hb38 ?_
           refine o_min (v := .i (min (w64 (v25 + r32.2)) a1)) (by decide) rfl ?_
           refine Oy (want := true) hb38 ?_
           refine Oi (.b (decide ((v33.length : Int) ≤ (min (w64 (v25 + r32.2)) a1)))) ?_
           refine Pt (.b (decide ((v33.length : Int) ≤ (min (w64 (v25 + r32.2)) a1)))) hb38 ?_
           refine Ni ?_
           exact w_goto (decide ((v33.length : Int) ≤ (min (w64 (v25 + r32.2)) a1))) (.k (.k (.k (.k (.k (.k (.k (.k .nil)))))))) ⟨(hS.keep [true] rfl).up (by omega), hM⟩
          ·replace hM := ifF hM hb38
           refine On (want := true) hb38 ?_
           refine On (want := true) hb38 ?_
           refine On (want := true) hb38 ?_
           refine On (want := true) hb38 ?_
           refine On (want := true) hb38 ?_
           refine On (want := true) hb38 ?_
           refine Pf (.b false) hb38 ?_
           refine Ni ?_
           exact w_goto false (.k (.k (.k (.k (.k (.k (.k (.k .nil)))))))) ⟨(hS.keep [true] rfl).up (by omega), hM⟩
       ·replace hM := ifF hM hb28
        refine Cf hb28 ?_
        refine r_exit ?_
        refine r_then_exit ?_
        refine w_round_exit ?_
        refine r_blk_exit ?_
        exact w_goto v23 (.k (.k .nil)) ⟨(hS.keep [true] rfl).up (by omega), hM⟩
      ·refine Rg 10 ?_
       refine Om (.i v26) ?_
       refine Om (.sl .no 1 (r7.map cI)) ?_
       refine o_len (n := r7.length) (by decide) rfl (List.length_map _) ty_isl22 ?_
       refine Oi (.b (decide (v26 < (r7.length : Int)))) ?_
       refine Om (.b (decide (v26 < (r7.length : Int)))) ?_
       rcases bft (decide (v26 < (r7.length : Int))) with hb39 | hb39
       ·replace hM := ifT hM hb39
        refine Oy (want := true) hb39 ?_
        refine Om (.sl (.id (g1 + 3 + 0)) 1 (v23.map cI)) ?_
        refine Oy (want := true) hb39 ?_
        refine o_len (n := v23.length) (by decide) rfl (List.length_map _) ty_isl22 ?_
        refine Oy (want := true) hb39 ?_
        refine Om (.i a1) ?_
        refine Oy (want := true) hb39 ?_
        refine Oi (.b (decide ((v23.length : Int) ≤ a1))) ?_
        refine Pt (.b (decide ((v23.length : Int) ≤ a1))) hb39 ?_
        refine Ni ?_
        exact w_goto (decide ((v23.length : Int) ≤ a1)) (.k (.k (.k (.k (.k (.k (.k (.k .nil)))))))) ⟨(hS.keep [true] rfl).up (by omega), hM⟩
       ·replace hM := ifF hM hb39
        refine On (want := true) hb39 ?_
        refine On (want := true) hb39 ?_
        refine On (want := true) hb39 ?_
        refine On (want := true) hb39 ?_
        refine Pf (.b false) hb39 ?_
        refine Ni ?_
        exact w_goto false (.k (.k (.k (.k (.k (.k (.k (.k .nil)))))))) ⟨(hS.keep [true] rfl).up (by omega), hM⟩
   ·refine Rg 10 ?_
    refine Of ((Wheel.cells a0)) ty_fo24_2 ?_
    refine Olp (.sl .no 1 (a0.Coins.map cI)) ty_agg22 ty_sc22 ?_
    refine o_len (n := a0.Coins.length) (by decide) rfl (List.length_map _) ty_isl22 ?_
    refine Oi (.b ((a0.Coins.length : Int) == 0)) ?_
    refine Om (.b ((a0.Coins.length : Int) == 0)) ?_
    rcases bft ((a0.Coins.length : Int) == 0) with hb40 | hb40
    ·replace hM := ifT hM hb40
     refine On (want := false) hb40 ?_
     refine On (want := false) hb40 ?_
     refine On (want := false) hb40 ?_
     refine On (want := false) hb40 ?_
     refine Pt (.b true) hb40 ?_
     refine Ni ?_
     exact w_goto true (.k (.k (.k .nil))) ⟨(hS.keep [] rfl).up (by omega), hM⟩
    ·replace hM := ifF hM hb40
     refine Oy (want := false) hb40 ?_
     refine Of ((Wheel.cells a0)) ty_fo24_1 ?_
     refine Oy (want := false) hb40 ?_
     refine Olp (.sl .no 1 (a0.Notches.map cI)) ty_agg22 ty_sc22 ?_
     refine Oy (want := false) hb40 ?_
     refine o_len (n := a0.Notches.length) (by decide) rfl (List.length_map _) ty_isl22 ?_
     refine Oy (want := false) hb40 ?_
     refine Oi (.b ((a0.Notches.length : Int) == 0)) ?_
     refine Pf (.b ((a0.Notches.length : Int) == 0)) hb40 ?_
     refine Ni ?_
     exact w_goto ((a0.Notches.length : Int) == 0) (.k (.k (.k .nil))) ⟨(hS.keep [] rfl).up (by omega), hM⟩
theorem W_law01_same {n : Nat} {a0 : Wheel} {a1 : Wheel} {r : Bool} (hM : law01_same n a0 a1 = some r) : PureSat Try.prog 21 [.agg (Wheel.cells a0), .agg (Wheel.cells a1)] (.b r) := by
 refine pure_of_wp mixed Try.func21 rfl (by decide) Try.ntmps21 (by simp) ?pure fun H0 g hf => ?_
 case pure => exact .v _
 rw [frame0_of]
 change wpA _ _ _ _ (Fr.of [(0, .agg (Wheel.cells a0)), (1, .agg (Wheel.cells a1))]) H0 g
 have hS := St.start hf
 refine Sq ?_
 refine Rg 3 ?_
 refine o_box (v := .agg (Wheel.cells a0)) (cs := (Wheel.cells a0)) hS (by decide) rfl rfl (by omega) fun H hS => ?_
 refine o_box (v := .agg (Wheel.cells a1)) (cs := (Wheel.cells a1)) hS (by decide) rfl rfl (by omega) fun H hS => ?_
 refine Oa (.b false) ?_
 refine Ni ?_
 refine w_iceE (L' := [(g + 1, .cells (Wheel.cells a1))]) 1 2 hS rfl rfl rfl fun H hS => ?_
 refine w_iceE (L' := []) 0 3 hS rfl rfl rfl fun H hS => ?_
 refine Ws ?_
 refine w_join (J := Bool) (fun j => [(4, .b j)]) (fun j H' g' => St (· < g) H0 [] H' g' ∧ law01_same_j1 j = some r) ?_ ?_
 ·rintro v1 H g1 ⟨hS, hM⟩
  change wpA _ _ _ _ (Fr.of [(4, .b v1)]) _ _
  replace hS : St (· < g) H0 [] H g1 := hS
  replace hM : law01_same_j1 v1 = some r := hM
  refine r_ret ?_
  refine w_end (x := .b v1) (f := fun r => .b r) (.inr rfl) ?_ (.refl _) (Option.some.inj hM) hS
  exact (res_one (res_tmp (x := .b v1) rfl))
 ·refine Rg 20 ?_
  refine Of ((Wheel.cells a0)) ty_fo24_0 ?_
  refine Olp (.i a0.Round) ty_agg3 ty_sc3 ?_
  refine Of ((Wheel.cells a1)) ty_fo24_0 ?_
  refine Olp (.i a1.Round) ty_agg3 ty_sc3 ?_
  refine Oi (.b (a0.Round == a1.Round)) ?_
  refine Om (.b (a0.Round == a1.Round)) ?_
  rcases bft (a0.Round == a1.Round) with hb2 | hb2
  ·replace hM := ifT hM hb2
   refine Oy (want := true) hb2 ?_
   refine Of ((Wheel.cells a0)) ty_fo24_1 ?_
   refine Oy (want := true) hb2 ?_
   refine Olp (.sl .no 1 (a0.Notches.map cI)) ty_agg22 ty_sc22 ?_
   refine Oy (want := true) hb2 ?_
   refine Of ((Wheel.cells a1)) ty_fo24_1 ?_
   refine Oy (want := true) hb2 ?_
   refine Olp (.sl .no 1 (a1.Notches.map cI)) ty_agg22 ty_sc22 ?_
   refine Oy (want := true) hb2 ?_
   obtain ⟨r3, hr3, hM⟩ := bindE hM
   refine o_call (bs := [.sl .no 1 (a0.Notches.map cI), .sl .no 1 (a1.Notches.map cI)]) (by decide) rfl rfl ((W_ref01_SameInts hr3).le (.k (.k .nil))) ?_
   refine Pt (.b r3) hb2 ?_
   refine Om (.b r3) ?_
   rcases bft r3 with hb4 | hb4
   ·replace hM := ifT hM hb4
    refine Oy (want := true) hb4 ?_
    refine Of ((Wheel.cells a0)) ty_fo24_2 ?_
    refine Oy (want := true) hb4 ?_
    refine Olp (.sl .no 1 (a0.Coins.map cI)) ty_agg22 ty_sc22 ?_
    refine Oy (want := true) hb4 ?_
    refine Of ((Wheel.cells a1)) ty_fo24_2 ?_
    refine Oy (want := true) hb4 ?_
    refine Olp (.sl .no 1 (a1.Coins.map cI)) ty_agg22 ty_sc22 ?_
    refine Oy (want := true) hb4 ?_
    obtain ⟨r5, hr5, hM⟩ := bindE hM
    refine o_call (bs := [.sl .no 1 (a0.Coins.map cI), .sl .no 1 (a1.Coins.map cI)]) (by decide) rfl rfl ((W_ref01_SameInts hr5).le (.k (.k .nil))) ?_
    refine Pt (.b r5) hb4 ?_
    refine Oa (.b r5) ?_
    refine Ni ?_
    exact w_goto r5 (.k .nil) ⟨(hS.keep [] rfl).up (by omega), hM⟩
   ·replace hM := ifF hM hb4
    refine On (want := true) hb4 ?_
    refine On (want := true) hb4 ?_
    refine On (want := true) hb4 ?_
    refine On (want := true) hb4 ?_
    refine On (want := true) hb4 ?_
    refine Pf (.b false) hb4 ?_
    refine Oa (.b false) ?_
    refine Ni ?_
    exact w_goto false (.k .nil) ⟨(hS.keep [] rfl).up (by omega), hM⟩
  ·replace hM := ifF hM hb2
   refine On (want := true) hb2 ?_
   refine On (want := true) hb2 ?_
   refine On (want := true) hb2 ?_
   refine On (want := true) hb2 ?_
   refine On (want := true) hb2 ?_
   refine Pf (.b false) hb2 ?_
   refine Om (.b false) ?_
   refine Og ?_
   refine Og ?_
   refine Og ?_
   refine Og ?_
   refine Og ?_
   refine o_pickF (v := .b false) (e := false) (by decide) rfl rfl rfl ?_
   refine Oa (.b false) ?_
   refine Ni ?_
   exact w_goto false (.k .nil) ⟨(hS.keep [] rfl).up (by omega), hM⟩
theorem W_law01_CoinsCheapest {n : Nat} {a0 : Wheel} {a1 : Int} {r : Bool} (hM : law01_CoinsCheapest n a0 a1 = some r) : PureSat Try.prog 3 [.agg (Wheel.cells a0), .i a1] (.b r) := by
 refine pure_of_wp mixed Try.func3 rfl (by decide) Try.ntmps3 (by simp) ?pure fun H0 g hf => ?_
 case pure => exact .v _
 rw [frame0_of]
 change wpA _ _ _ _ (Fr.of [(0, .agg (Wheel.cells a0)), (1, .i a1)]) H0 g
 have hS := St.start hf
 refine Sq ?_
 refine Rg 2 ?_
 refine o_box (v := .agg (Wheel.cells a0)) (cs := (Wheel.cells a0)) hS (by decide) rfl rfl (by omega) fun H hS => ?_
 refine Oa (.b false) ?_
 refine Ni ?_
 refine w_iceE (L' := []) 0 2 hS rfl rfl rfl fun H hS => ?_
 refine Ws ?_
 refine Sq ?_
 refine Sq ?_
 refine Rg 2 ?_
 refine Olg (.agg (Wheel.cells a0)) ty_agg24 ?_
 obtain ⟨r1, hr1, hM⟩ := bindE hM
 refine o_call (bs := [.agg (Wheel.cells a0)]) (by decide) rfl rfl ((W_law01_far hr1).le (.k .nil)) ?_
 refine Ni ?_
 refine Ws ?_
 rcases bft r1 with hb2 | hb2
 ·replace hM := ifT hM hb2
  refine Ct hb2 ?_
  refine Sq ?_
  refine Rg 2 ?_
  obtain ⟨r3, hr3, hM⟩ := bindE hM
  refine o_call (bs := []) (by decide) rfl rfl ((W_law01_works hr3).le .nil) ?_
  refine Oa (.b r3) ?_
  refine Ni ?_
  refine Ws ?_
  refine r_ret ?_
  refine r_then_ret ?_
  refine w_end (x := .b r3) (f := fun r => .b r) (.inr rfl) ?_ (.refl _) (Option.some.inj hM) hS
  exact (res_one (res_tmp (x := .b r3) rfl))
 ·replace hM := ifF hM hb2
  refine Cf hb2 ?_
  refine r_skip ?_
  refine Ws ?_
  refine Sq ?_
  refine Rg 4 ?_
  refine Olg (.agg (Wheel.cells a0)) ty_agg24 ?_
  obtain ⟨r4, hr4, hM⟩ := bindE hM
  refine o_call (bs := [.agg (Wheel.cells a0)]) (by decide) rfl rfl ((W_ref01_Copy hr4).le (.k .nil)) ?_
  refine o_alloc hS (by decide) ty_zero24 (by omega) fun H hS => ?_
  refine o_store (v := .agg (Wheel.cells r4)) (ns := (Wheel.cells r4)) (L' := [(g + 2 + 2 + 2, .cells (Wheel.cells r4))]) 0 hS rfl rfl .no rfl rfl ty_var24 nlb rfl fun H hS => ?_
  refine Ni ?_
  refine w_iceE (L' := []) 0 5 hS rfl rfl rfl fun H hS => ?_
  refine Ws ?_
  refine Sq ?_
  refine Rg 8 ?_
  refine Olg (.agg (Wheel.cells r4)) ty_agg24 ?_
  refine Om (.i a1) ?_
  obtain ⟨r5, hr5, hM⟩ := bindE hM
  refine o_call (bs := [.agg (Wheel.cells r4), .i a1]) (by decide) rfl rfl ((W_coins_Cheapest hr5).le (.k (.k .nil))) ?_
  refine Om (.tup [.i r5.1, .i r5.2]) ?_
  refine Ox (.i r5.1) ?_
  refine Ox (.i r5.2) ?_
  refine Oa (.i r5.1) ?_
  refine Oa (.i r5.2) ?_
  refine Ni ?_
  refine Ws ?_
  refine Sq ?_
  refine Rg 8 ?_
  refine Olg (.agg (Wheel.cells a0)) ty_agg24 ?_
  refine Om (.i a1) ?_
  obtain ⟨r6, hr6, hM⟩ := bindE hM
  refine o_call (bs := [.agg (Wheel.cells a0), .i a1]) (by decide) rfl rfl ((W_ref01_Cheapest hr6).le (.k (.k .nil))) ?_
  refine Om (.tup [.i r6.1, .i r6.2]) ?_
  refine Ox (.i r6.1) ?_
  refine Ox (.i r6.2) ?_
  refine Oa (.i r6.1) ?_
  refine Oa (.i r6.2) ?_
  refine Ni ?_
  refine Ws ?_
  refine w_join (J := Bool) (fun j => [(4, .b j)]) (fun j H' g' => St (· < g) H0 [] H' g' ∧ law01_CoinsCheapest_j1 j = some r) ?_ ?_
  ·rintro v7 H g1 ⟨hS, hM⟩
   change wpA _ _ _ _ (Fr.of [(4, .b v7)]) _ _
   replace hS : St (· < g) H0 [] H g1 := hS
   replace hM : law01_CoinsCheapest_j1 v7 = some r := hM
   refine r_ret ?_
   refine w_end (x := .b v7) (f := fun r => .b r) (.inr rfl) ?_ (.refl _) (Option.some.inj hM) hS
   exact (res_one (res_tmp (x := .b v7) rfl))
  ·refine Rg 17 ?_
   refine Om (.i r5.1) ?_
   refine Om (.i r6.1) ?_
   refine Oi (.b (r5.1 == r6.1)) ?_
   refine Om (.b (r5.1 == r6.1)) ?_
   rcases bft (r5.1 == r6.1) with hb8 | hb8
   ·replace hM := ifT hM hb8
    refine Oy (want := true) hb8 ?_
    refine Om (.i r5.2) ?_
    refine Oy (want := true) hb8 ?_
    refine Om (.i r6.2) ?_
    refine Oy (want := true) hb8 ?_
    refine Oi (.b (r5.2 == r6.2)) ?_
    refine Pt (.b (r5.2 == r6.2)) hb8 ?_
    refine Om (.b (r5.2 == r6.2)) ?_
    rcases bft (r5.2 == r6.2) with hb9 | hb9
    ·replace hM := ifT hM hb9
     refine Oy (want := true) hb9 ?_
     refine Olg (.agg (Wheel.cells r4)) ty_agg24 ?_
     refine Oy (want := true) hb9 ?_
     refine Olg (.agg (Wheel.cells a0)) ty_agg24 ?_
     refine Oy (want := true) hb9 ?_
     obtain ⟨r10, hr10, hM⟩ := bindE hM
     refine o_call (bs := [.agg (Wheel.cells r4), .agg (Wheel.cells a0)]) (by decide) rfl rfl ((W_law01_same hr10).le (.k (.k .nil))) ?_
     refine Pt (.b r10) hb9 ?_
     refine Om (.b r10) ?_
     rcases bft r10 with hb11 | hb11
     ·replace hM := ifT hM hb11
      refine Oy (want := true) hb11 ?_
      obtain ⟨r12, hr12, hM⟩ := bindE hM
      refine o_call (bs := []) (by decide) rfl rfl ((W_law01_works hr12).le .nil) ?_
      refine Pt (.b r12) hb11 ?_
      refine Oa (.b r12) ?_
      refine Ni ?_
      exact w_goto r12 (.k .nil) ⟨(hS.keep [] rfl).up (by omega), hM⟩
     ·replace hM := ifF hM hb11
      refine On (want := true) hb11 ?_
      refine Pf (.b false) hb11 ?_
      refine Oa (.b false) ?_
      refine Ni ?_
      exact w_goto false (.k .nil) ⟨(hS.keep [] rfl).up (by omega), hM⟩
    ·replace hM := ifF hM hb9
     refine On (want := true) hb9 ?_
     refine On (want := true) hb9 ?_
     refine On (want := true) hb9 ?_
     refine Pf (.b false) hb9 ?_
     refine Om (.b false) ?_
     refine Og ?_
     refine o_pickF (v := .b false) (e := false) (by decide) rfl rfl rfl ?_
     refine Oa (.b false) ?_
     refine Ni ?_
     exact w_goto false (.k .nil) ⟨(hS.keep [] rfl).up (by omega), hM⟩
   ·replace hM := ifF hM hb8
    refine On (want := true) hb8 ?_
    refine On (want := true) hb8 ?_
    refine On (want := true) hb8 ?_
    refine Pf (.b false) hb8 ?_
    refine Om (.b false) ?_
    refine Og ?_
    refine Og ?_
    refine Og ?_
    refine o_pickF (v := .b false) (e := false) (by decide) rfl rfl rfl ?_
    refine Om (.b false) ?_
    refine Og ?_
    refine o_pickF (v := .b false) (e := false) (by decide) rfl rfl rfl ?_
    refine Oa (.b false) ?_
    refine Ni ?_
    exact w_goto false (.k .nil) ⟨(hS.keep [] rfl).up (by omega), hM⟩
end Go.Proofs.Ytapcibbbmeomkaa
