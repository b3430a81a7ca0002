/-
  The code returns what the functions say (printed by gen.py).
  Conditions: none.
-/
import Derived.Test.YtneghcnkcfblmaaWkWiresMore2
import Derived.Test.YtneghcnkcfblmaaSh
set_option linter.all false
namespace Go.Proofs.Ytneghcnkcfblmaa
open Go Go.AM Go.Law
set_option linter.unusedVariables false
set_option maxRecDepth 4000
set_option maxHeartbeats 4000000
theorem W_law11_WiresMore {n : Nat} {a0 : Wire} {r : Bool} (hM : law11_WiresMore n a0 = some r) : PureSat Try.prog 4 [.agg (Wire.cells a0)] (.b r) := by
 refine pure_of_wp mixed Try.func4 rfl (by decide) Try.ntmps4 (by simp) ?pure fun H0 g hf => ?_
 case pure => exact .v _
 rw [frame0_of]
 change wpA _ _ _ _ (Fr.of [(0, .agg (Wire.cells a0))]) H0 g
 have hS := St.start hf
 refine r_seq ?_
 refine r_region (n := 2) rfl ?_
 refine o_box (v := .agg (Wire.cells a0)) (cs := (Wire.cells a0)) hS (by decide) rfl rfl (by omega) fun H hS => ?_
 refine o_assign (v := .b false) (by decide) rfl ?_
 refine run_nil ?_
 refine w_iceE (L' := []) 0 1 hS rfl rfl rfl fun H hS => ?_
 refine w_next [(1, .ep (Wire.cells a0))] (.k .nil) ?_
 refine r_seq ?_
 refine r_region (n := 4) rfl ?_
 refine o_loadE (v := .agg (Wire.cells a0)) (by decide) rfl (part_agg ty_agg24 (Nat.le_of_ble_eq_true rfl) rfl) ?_
 obtain ⟨r1, hr1, hM⟩ := bindE hM
 refine o_call (bs := [.agg (Wire.cells a0)]) (by decide) rfl rfl ((W_ref11_Copy hr1).le (.k .nil)) ?_
 refine o_alloc hS (by decide) ty_zero24 (by omega) fun H hS => ?_
 refine o_store (v := .agg (Wire.cells r1)) (ns := (Wire.cells r1)) (L' := [(g + 2 + 2, .cells (Wire.cells r1))]) 0 hS rfl rfl .no rfl rfl ty_var24 (Nat.le_of_ble_eq_true rfl) rfl fun H hS => ?_
 refine run_nil ?_
 refine w_next [(1, .ep (Wire.cells a0)), (3, .ptr (g + 2 + 2) 0)] (.k (.k .nil)) ?_
 refine r_seq ?_
 refine r_region (n := 5) rfl ?_
 refine o_fieldP (by decide) ty_fo24_3 rfl ?_
 refine o_load (v := .i r1.Faults) 0 hS (by decide) rfl rfl .no (part_one ty_agg3 ty_sc3 rfl) ?_
 refine o_int (v := .i (w64 (r1.Faults + 1))) (by decide) rfl rfl rfl ?_
 refine o_fieldP (by decide) ty_fo24_3 rfl ?_
 refine o_store (v := .i (w64 (r1.Faults + 1))) (ns := [.i (w64 (r1.Faults + 1))]) (L' := [(g + 2 + 2, .cells [.i r1.Letters, .i r1.Numbers, .sl .no 3 (r1.Presses.map WirePress.cells), .i (w64 (r1.Faults + 1))])]) 0 hS rfl rfl .no rfl rfl ty_var3 (Nat.le_of_ble_eq_true rfl) rfl fun H hS => ?_
 refine run_nil ?_
 refine w_next [(1, .ep (Wire.cells a0)), (3, .ptr (g + 2 + 2) 0)] (.k (.k .nil)) ?_
 refine r_seq ?_
 refine w_join (J := Bool) (fun j => [(1, .ep (Wire.cells a0)), (3, .ptr (g + 2 + 2) 0), (29, .b j)]) (fun j H' g' => St (· < g) H0 [(g + 2 + 2, .cells [.i r1.Letters, .i r1.Numbers, .sl .no 3 (r1.Presses.map WirePress.cells), .i (w64 (r1.Faults + 1))])] H' g' ∧ law11_WiresMore_j1 n a0 r1 j = some r) ?_ ?_
 ·rintro v2 H g1 ⟨hS, hM⟩
  change wpA _ _ _ _ (Fr.of [(1, .ep (Wire.cells a0)), (3, .ptr (g + 2 + 2) 0), (29, .b v2)]) _ _
  replace hS : St (· < g) H0 [(g + 2 + 2, .cells [.i r1.Letters, .i r1.Numbers, .sl .no 3 (r1.Presses.map WirePress.cells), .i (w64 (r1.Faults + 1))])] H g1 := hS
  replace hM : law11_WiresMore_j1 n a0 r1 v2 = some r := hM
  rcases Bool.eq_false_or_eq_true v2 with hb3 | hb3
  ·replace hM := ifT hM hb3
   refine w_condT (e := v2) rfl hb3 ?_
   refine r_seq ?_
   refine r_region (n := 2) rfl ?_
   obtain ⟨r4, hr4, hM⟩ := bindE hM
   refine o_call (bs := []) (by decide) rfl rfl ((W_law11_works hr4).le .nil) ?_
   refine o_assign (v := .b r4) (by decide) rfl ?_
   refine run_nil ?_
   replace hS := hS.keep (L' := []) [false] rfl
   refine w_next [(2, .b r4)] (.k .nil) ?_
   refine r_ret ?_
   refine r_then_ret ?_
   refine w_end (x := .b r4) (f := fun r => .b r) (.inr rfl) ?_ (.refl _) (Option.some.inj hM) hS
   exact (res_one (res_tmp (x := .b r4) rfl))
  ·replace hM := ifF hM hb3
   refine w_condF (e := v2) rfl hb3 ?_
   refine r_skip ?_
   refine w_next [(1, .ep (Wire.cells a0)), (3, .ptr (g + 2 + 2) 0)] (.k (.k .nil)) ?_
   refine r_seq ?_
   refine r_region (n := 7) rfl ?_
   refine o_loadE (v := .agg (Wire.cells a0)) (by decide) rfl (part_agg ty_agg24 (Nat.le_of_ble_eq_true rfl) rfl) ?_
   obtain ⟨r5, hr5, hM⟩ := bindE hM
   refine o_call (bs := [.agg (Wire.cells a0)]) (by decide) rfl rfl ((W_wires_Many hr5).le (.k .nil)) ?_
   refine o_move (v := .tup [.i r5.1, .i r5.2]) (by decide) rfl ?_
   refine o_extract (v := .i r5.1) (by decide) rfl rfl ?_
   refine o_extract (v := .i r5.2) (by decide) rfl rfl ?_
   refine o_assign (v := .i r5.1) (by decide) rfl ?_
   refine o_assign (v := .i r5.2) (by decide) rfl ?_
   refine run_nil ?_
   refine w_next [(1, .ep (Wire.cells a0)), (3, .ptr (g + 2 + 2) 0), (4, .i r5.1), (5, .i r5.2)] (.k (.k (.k (.k .nil)))) ?_
   refine r_seq ?_
   refine r_region (n := 7) rfl ?_
   refine o_load (v := .agg [.i r1.Letters, .i r1.Numbers, .sl .no 3 (r1.Presses.map WirePress.cells), .i (w64 (r1.Faults + 1))]) 0 hS (by decide) rfl rfl .no (part_agg ty_agg24 (Nat.le_of_ble_eq_true rfl) rfl) ?_
   obtain ⟨r6, hr6, hM⟩ := bindE hM
   refine o_call (bs := [.agg [.i r1.Letters, .i r1.Numbers, .sl .no 3 (r1.Presses.map WirePress.cells), .i (w64 (r1.Faults + 1))]]) (by decide) rfl rfl ((W_wires_Many hr6).le (.k .nil)) ?_
   refine o_move (v := .tup [.i r6.1, .i r6.2]) (by decide) rfl ?_
   refine o_extract (v := .i r6.1) (by decide) rfl rfl ?_
   refine o_extract (v := .i r6.2) (by decide) rfl rfl ?_
   refine o_assign (v := .i r6.1) (by decide) rfl ?_
   refine o_assign (v := .i r6.2) (by decide) rfl ?_
   refine run_nil ?_
   refine w_next [(1, .ep (Wire.cells a0)), (3, .ptr (g + 2 + 2) 0), (4, .i r5.1), (5, .i r5.2), (6, .i r6.1), (7, .i r6.2)] (.k (.k (.k (.k (.k (.k .nil)))))) ?_
   refine r_seq ?_
   refine r_region (n := 7) rfl ?_
   refine o_loadE (v := .agg (Wire.cells a0)) (by decide) rfl (part_agg ty_agg24 (Nat.le_of_ble_eq_true rfl) rfl) ?_
   obtain ⟨r7, hr7, hM⟩ := bindE hM
   refine o_call (bs := [.agg (Wire.cells a0)]) (by decide) rfl rfl ((W_wires_Sure hr7).le (.k .nil)) ?_
   refine o_move (v := .tup [.sl .no 3 (r7.1.map WireFault.cells), .i r7.2]) (by decide) rfl ?_
   refine o_extract (v := .sl .no 3 (r7.1.map WireFault.cells)) (by decide) rfl rfl ?_
   refine o_extract (v := .i r7.2) (by decide) rfl rfl ?_
   refine o_assign (v := .sl .no 3 (r7.1.map WireFault.cells)) (by decide) rfl ?_
   refine o_assign (v := .i r7.2) (by decide) rfl ?_
   refine run_nil ?_
   refine w_next [(1, .ep (Wire.cells a0)), (3, .ptr (g + 2 + 2) 0), (4, .i r5.1), (5, .i r5.2), (6, .i r6.1), (7, .i r6.2), (8, .sl .no 3 (r7.1.map WireFault.cells)), (9, .i r7.2)] (.k (.k (.k (.k (.k (.k (.k (.k .nil)))))))) ?_
   refine r_seq ?_
   refine r_region (n := 7) rfl ?_
   refine o_load (v := .agg [.i r1.Letters, .i r1.Numbers, .sl .no 3 (r1.Presses.map WirePress.cells), .i (w64 (r1.Faults + 1))]) 0 hS (by decide) rfl rfl .no (part_agg ty_agg24 (Nat.le_of_ble_eq_true rfl) rfl) ?_
   obtain ⟨r8, hr8, hM⟩ := bindE hM
   refine o_call (bs := [.agg [.i r1.Letters, .i r1.Numbers, .sl .no 3 (r1.Presses.map WirePress.cells), .i (w64 (r1.Faults + 1))]]) (by decide) rfl rfl ((W_wires_Sure hr8).le (.k .nil)) ?_
   refine o_move (v := .tup [.sl .no 3 (r8.1.map WireFault.cells), .i r8.2]) (by decide) rfl ?_
   refine o_extract (v := .sl .no 3 (r8.1.map WireFault.cells)) (by decide) rfl rfl ?_
   refine o_extract (v := .i r8.2) (by decide) rfl rfl ?_
   refine o_assign (v := .sl .no 3 (r8.1.map WireFault.cells)) (by decide) rfl ?_
   refine o_assign (v := .i r8.2) (by decide) rfl ?_
   refine run_nil ?_
   refine w_next [(1, .ep (Wire.cells a0)), (3, .ptr (g + 2 + 2) 0), (4, .i r5.1), (5, .i r5.2), (6, .i r6.1), (7, .i r6.2), (8, .sl .no 3 (r7.1.map WireFault.cells)), (9, .i r7.2), (10, .sl .no 3 (r8.1.map WireFault.cells)), (11, .i r8.2)] (.k (.k (.k (.k (.k (.k (.k (.k (.k (.k .nil)))))))))) ?_
   refine r_seq ?_
   refine r_region (n := 7) rfl ?_
   refine o_loadE (v := .agg (Wire.cells a0)) (by decide) rfl (part_agg ty_agg24 (Nat.le_of_ble_eq_true rfl) rfl) ?_
   obtain ⟨r9, hr9, hM⟩ := bindE hM
   refine o_call (bs := [.agg (Wire.cells a0)]) (by decide) rfl rfl ((W_wires_Maybe hr9).le (.k .nil)) ?_
   refine o_move (v := .tup [.sl .no 3 (r9.1.map WireFault.cells), .i r9.2]) (by decide) rfl ?_
   refine o_extract (v := .sl .no 3 (r9.1.map WireFault.cells)) (by decide) rfl rfl ?_
   refine o_extract (v := .i r9.2) (by decide) rfl rfl ?_
   refine o_assign (v := .sl .no 3 (r9.1.map WireFault.cells)) (by decide) rfl ?_
   refine o_assign (v := .i r9.2) (by decide) rfl ?_
   refine run_nil ?_
   refine w_next [(3, .ptr (g + 2 + 2) 0), (4, .i r5.1), (5, .i r5.2), (6, .i r6.1), (7, .i r6.2), (8, .sl .no 3 (r7.1.map WireFault.cells)), (9, .i r7.2), (10, .sl .no 3 (r8.1.map WireFault.cells)), (11, .i r8.2), (12, .sl .no 3 (r9.1.map WireFault.cells)), (13, .i r9.2)] (.k (.k (.k (.k (.k (.k (.k (.k (.k (.k (.k .nil))))))))))) ?_
   refine r_seq ?_
   refine r_region (n := 7) rfl ?_
   refine o_load (v := .agg [.i r1.Letters, .i r1.Numbers, .sl .no 3 (r1.Presses.map WirePress.cells), .i (w64 (r1.Faults + 1))]) 0 hS (by decide) rfl rfl .no (part_agg ty_agg24 (Nat.le_of_ble_eq_true rfl) rfl) ?_
   obtain ⟨r10, hr10, hM⟩ := bindE hM
   refine o_call (bs := [.agg [.i r1.Letters, .i r1.Numbers, .sl .no 3 (r1.Presses.map WirePress.cells), .i (w64 (r1.Faults + 1))]]) (by decide) rfl rfl ((W_wires_Maybe hr10).le (.k .nil)) ?_
   refine o_move (v := .tup [.sl .no 3 (r10.1.map WireFault.cells), .i r10.2]) (by decide) rfl ?_
   refine o_extract (v := .sl .no 3 (r10.1.map WireFault.cells)) (by decide) rfl rfl ?_
   refine o_extract (v := .i r10.2) (by decide) rfl rfl ?_
   refine o_assign (v := .sl .no 3 (r10.1.map WireFault.cells)) (by decide) rfl ?_
   refine o_assign (v := .i r10.2) (by decide) rfl ?_
   refine run_nil ?_
   replace hS := hS.keep (L' := []) [false] rfl
   refine w_next [(4, .i r5.1), (5, .i r5.2), (6, .i r6.1), (7, .i r6.2), (8, .sl .no 3 (r7.1.map WireFault.cells)), (9, .i r7.2), (10, .sl .no 3 (r8.1.map WireFault.cells)), (11, .i r8.2), (12, .sl .no 3 (r9.1.map WireFault.cells)), (13, .i r9.2), (14, .sl .no 3 (r10.1.map WireFault.cells)), (15, .i r10.2)] (.k (.k (.k (.k (.k (.k (.k (.k (.k (.k (.k (.k .nil)))))))))))) ?_
   refine r_seq ?_
   refine w_join (J := Bool) (fun j => [(4, .i r5.1), (5, .i r5.2), (6, .i r6.1), (7, .i r6.2), (8, .sl .no 3 (r7.1.map WireFault.cells)), (10, .sl .no 3 (r8.1.map WireFault.cells)), (12, .sl .no 3 (r9.1.map WireFault.cells)), (14, .sl .no 3 (r10.1.map WireFault.cells)), (88, .b j)]) (fun j H' g' => St (· < g) H0 [] H' g' ∧ law11_WiresMore_j2 n r5 r6 r7 r8 r9 r10 j = some r) ?_ ?_
   ·rintro v11 H g2 ⟨hS, hM⟩
    change wpA _ _ _ _ (Fr.of [(4, .i r5.1), (5, .i r5.2), (6, .i r6.1), (7, .i r6.2), (8, .sl .no 3 (r7.1.map WireFault.cells)), (10, .sl .no 3 (r8.1.map WireFault.cells)), (12, .sl .no 3 (r9.1.map WireFault.cells)), (14, .sl .no 3 (r10.1.map WireFault.cells)), (88, .b v11)]) _ _
    replace hS : St (· < g) H0 [] H g2 := hS
    replace hM : law11_WiresMore_j2 n r5 r6 r7 r8 r9 r10 v11 = some r := hM
    rcases Bool.eq_false_or_eq_true v11 with hb12 | hb12
    ·replace hM := ifT hM hb12
     refine w_condT (e := v11) rfl hb12 ?_
     refine r_seq ?_
     refine r_region (n := 1) rfl ?_
     refine o_assign (v := .b false) (by decide) rfl ?_
     refine run_nil ?_
     refine w_next [(2, .b false)] (.k .nil) ?_
     refine r_ret ?_
     refine r_then_ret ?_
     refine w_end (x := .b false) (f := fun r => .b r) (.inr rfl) ?_ (.refl _) (Option.some.inj hM) hS
     exact (res_one (res_tmp (x := .b false) rfl))
    ·replace hM := ifF hM hb12
     refine w_condF (e := v11) rfl hb12 ?_
     refine r_skip ?_
     refine w_next [(4, .i r5.1), (5, .i r5.2), (6, .i r6.1), (7, .i r6.2), (8, .sl .no 3 (r7.1.map WireFault.cells)), (10, .sl .no 3 (r8.1.map WireFault.cells)), (12, .sl .no 3 (r9.1.map WireFault.cells)), (14, .sl .no 3 (r10.1.map WireFault.cells))] (.k (.k (.k (.k (.k (.k (.k (.k .nil)))))))) ?_
     refine w_join (J := Bool) (fun j => [(2, .b j)]) (fun j H' g' => St (· < g) H0 [] H' g' ∧ law11_WiresMore_j3 j = some r) ?_ ?_
     ·rintro v13 H g3 ⟨hS, hM⟩
      change wpA _ _ _ _ (Fr.of [(2, .b v13)]) _ _
      replace hS : St (· < g) H0 [] H g3 := hS
      replace hM : law11_WiresMore_j3 v13 = some r := hM
      refine r_ret ?_
      refine w_end (x := .b v13) (f := fun r => .b r) (.inr rfl) ?_ (.refl _) (Option.some.inj hM) hS
      exact (res_one (res_tmp (x := .b v13) rfl))
     ·refine r_region (n := 25) rfl ?_
      refine o_move (v := .i r5.2) (by decide) rfl ?_
      refine o_int (v := .b (r5.2 != 0)) (by decide) rfl rfl rfl ?_
      refine o_move (v := .b (r5.2 != 0)) (by decide) rfl ?_
      rcases Bool.eq_false_or_eq_true (r5.2 != 0) with hb14 | hb14
      ·replace hM := ifT hM hb14
       refine o_guardN (j := 2) (e := (r5.2 != 0)) (want := false) (by decide) rfl hb14 ?_
       refine o_guardN (j := 2) (e := (r5.2 != 0)) (want := false) (by decide) rfl hb14 ?_
       refine o_guardN (j := 2) (e := (r5.2 != 0)) (want := false) (by decide) rfl hb14 ?_
       refine o_guardU (j := 5) (by decide) rfl ?_
       refine o_guardU (j := 5) (by decide) rfl ?_
       refine o_guardU (j := 5) (by decide) rfl ?_
       refine o_guardN (j := 2) (e := (r5.2 != 0)) (want := false) (by decide) rfl hb14 ?_
       refine o_guardN (j := 2) (e := (r5.2 != 0)) (want := false) (by decide) rfl hb14 ?_
       refine o_guardU (j := 10) (by decide) rfl ?_
       refine o_guardU (j := 10) (by decide) rfl ?_
       refine o_guardU (j := 10) (by decide) rfl ?_
       refine o_guardN (j := 2) (e := (r5.2 != 0)) (want := false) (by decide) rfl hb14 ?_
       refine o_guardN (j := 2) (e := (r5.2 != 0)) (want := false) (by decide) rfl hb14 ?_
       refine o_guardU (j := 15) (by decide) rfl ?_
       refine o_guardU (j := 15) (by decide) rfl ?_
       refine o_guardU (j := 15) (by decide) rfl ?_
       refine o_guardN (j := 2) (e := (r5.2 != 0)) (want := false) (by decide) rfl hb14 ?_
       refine o_pickT (v := .b true) (e := (r5.2 != 0)) (by decide) rfl hb14 rfl ?_
       refine o_move (v := .b true) (by decide) rfl ?_
       refine o_guardY (j := 21) (e := true) (want := true) rfl rfl ?_
       obtain ⟨r15, hr15, hM⟩ := bindE hM
       refine o_call (bs := []) (by decide) rfl rfl ((W_law11_works hr15).le .nil) ?_
       refine o_pickT (v := .b r15) (e := true) (by decide) rfl rfl rfl ?_
       refine o_assign (v := .b r15) (by decide) rfl ?_
       refine run_nil ?_
       exact w_goto r15 (.k .nil) ⟨(hS.keep [] rfl).up (by omega), hM⟩
      ·replace hM := ifF hM hb14
       refine o_guardY (j := 2) (e := (r5.2 != 0)) (want := false) rfl hb14 ?_
       refine o_move (v := .i r6.2) (by decide) rfl ?_
       refine o_guardY (j := 2) (e := (r5.2 != 0)) (want := false) rfl hb14 ?_
       refine o_int (v := .b (r6.2 == 0)) (by decide) rfl rfl rfl ?_
       refine o_guardY (j := 2) (e := (r5.2 != 0)) (want := false) rfl hb14 ?_
       refine o_move (v := .b (r6.2 == 0)) (by decide) rfl ?_
       rcases Bool.eq_false_or_eq_true (r6.2 == 0) with hb16 | hb16
       ·replace hM := ifT hM hb16
        refine o_guardY (j := 5) (e := (r6.2 == 0)) (want := true) rfl hb16 ?_
        refine o_move (v := .i r6.1) (by decide) rfl ?_
        refine o_guardY (j := 5) (e := (r6.2 == 0)) (want := true) rfl hb16 ?_
        refine o_move (v := .i r5.1) (by decide) rfl ?_
        refine o_guardY (j := 5) (e := (r6.2 == 0)) (want := true) rfl hb16 ?_
        refine o_int (v := .b (decide (r6.1 ≥ r5.1))) (by decide) rfl rfl rfl ?_
        refine o_guardY (j := 2) (e := (r5.2 != 0)) (want := false) rfl hb14 ?_
        refine o_pickT (v := .b (decide (r6.1 ≥ r5.1))) (e := (r6.2 == 0)) (by decide) rfl hb16 rfl ?_
        refine o_guardY (j := 2) (e := (r5.2 != 0)) (want := false) rfl hb14 ?_
        refine o_move (v := .b (decide (r6.1 ≥ r5.1))) (by decide) rfl ?_
        rcases Bool.eq_false_or_eq_true (decide (r6.1 ≥ r5.1)) with hb17 | hb17
        ·replace hM := ifT hM hb17
         refine o_guardY (j := 10) (e := (decide (r6.1 ≥ r5.1))) (want := true) rfl hb17 ?_
         refine o_move (v := .sl .no 3 (r8.1.map WireFault.cells)) (by decide) rfl ?_
         refine o_guardY (j := 10) (e := (decide (r6.1 ≥ r5.1))) (want := true) rfl hb17 ?_
         refine o_move (v := .sl .no 3 (r7.1.map WireFault.cells)) (by decide) rfl ?_
         refine o_guardY (j := 10) (e := (decide (r6.1 ≥ r5.1))) (want := true) rfl hb17 ?_
         obtain ⟨r18, hr18, hM⟩ := bindE hM
         refine o_call (bs := [.sl .no 3 (r8.1.map WireFault.cells), .sl .no 3 (r7.1.map WireFault.cells)]) (by decide) rfl rfl ((W_law11_areIn hr18).le (.k (.k .nil))) ?_
         refine o_guardY (j := 2) (e := (r5.2 != 0)) (want := false) rfl hb14 ?_
         refine o_pickT (v := .b r18) (e := (decide (r6.1 ≥ r5.1))) (by decide) rfl hb17 rfl ?_
         refine o_guardY (j := 2) (e := (r5.2 != 0)) (want := false) rfl hb14 ?_
         refine o_move (v := .b r18) (by decide) rfl ?_
         rcases Bool.eq_false_or_eq_true r18 with hb19 | hb19
         ·replace hM := ifT hM hb19
          refine o_guardY (j := 15) (e := r18) (want := true) rfl hb19 ?_
          refine o_move (v := .sl .no 3 (r9.1.map WireFault.cells)) (by decide) rfl ?_
          refine o_guardY (j := 15) (e := r18) (want := true) rfl hb19 ?_
          refine o_move (v := .sl .no 3 (r10.1.map WireFault.cells)) (by decide) rfl ?_
          refine o_guardY (j := 15) (e := r18) (want := true) rfl hb19 ?_
          obtain ⟨r20, hr20, hM⟩ := bindE hM
          refine o_call (bs := [.sl .no 3 (r9.1.map WireFault.cells), .sl .no 3 (r10.1.map WireFault.cells)]) (by decide) rfl rfl ((W_law11_areIn hr20).le (.k (.k .nil))) ?_
          refine o_guardY (j := 2) (e := (r5.2 != 0)) (want := false) rfl hb14 ?_
          refine o_pickT (v := .b r20) (e := r18) (by decide) rfl hb19 rfl ?_
          refine o_pickF (v := .b r20) (e := (r5.2 != 0)) (by decide) rfl hb14 rfl ?_
          refine o_move (v := .b r20) (by decide) rfl ?_
          rcases Bool.eq_false_or_eq_true r20 with hb21 | hb21
          ·replace hM := ifT hM hb21
           refine o_guardY (j := 21) (e := r20) (want := true) rfl hb21 ?_
           obtain ⟨r22, hr22, hM⟩ := bindE hM
           refine o_call (bs := []) (by decide) rfl rfl ((W_law11_works hr22).le .nil) ?_
           refine o_pickT (v := .b r22) (e := r20) (by decide) rfl hb21 rfl ?_
           refine o_assign (v := .b r22) (by decide) rfl ?_
           refine run_nil ?_
           exact w_goto r22 (.k .nil) ⟨(hS.keep [] rfl).up (by omega), hM⟩
          ·replace hM := ifF hM hb21
           refine o_guardN (j := 21) (e := r20) (want := true) (by decide) rfl hb21 ?_
           refine o_pickF (v := .b false) (e := r20) (by decide) rfl hb21 rfl ?_
           refine o_assign (v := .b false) (by decide) rfl ?_
           refine run_nil ?_
           exact w_goto false (.k .nil) ⟨(hS.keep [] rfl).up (by omega), hM⟩
         ·replace hM := ifF hM hb19
          refine o_guardN (j := 15) (e := r18) (want := true) (by decide) rfl hb19 ?_
          refine o_guardN (j := 15) (e := r18) (want := true) (by decide) rfl hb19 ?_
          refine o_guardN (j := 15) (e := r18) (want := true) (by decide) rfl hb19 ?_
          refine o_guardY (j := 2) (e := (r5.2 != 0)) (want := false) rfl hb14 ?_
          refine o_pickF (v := .b false) (e := r18) (by decide) rfl hb19 rfl ?_
          refine o_pickF (v := .b false) (e := (r5.2 != 0)) (by decide) rfl hb14 rfl ?_
          refine o_move (v := .b false) (by decide) rfl ?_
          refine o_guardN (j := 21) (e := false) (want := true) (by decide) rfl rfl ?_
          refine o_pickF (v := .b false) (e := false) (by decide) rfl rfl rfl ?_
          refine o_assign (v := .b false) (by decide) rfl ?_
          refine run_nil ?_
          exact w_goto false (.k .nil) ⟨(hS.keep [] rfl).up (by omega), hM⟩
        ·replace hM := ifF hM hb17
         refine o_guardN (j := 10) (e := (decide (r6.1 ≥ r5.1))) (want := true) (by decide) rfl hb17 ?_
         refine o_guardN (j := 10) (e := (decide (r6.1 ≥ r5.1))) (want := true) (by decide) rfl hb17 ?_
         refine o_guardN (j := 10) (e := (decide (r6.1 ≥ r5.1))) (want := true) (by decide) rfl hb17 ?_
         refine o_guardY (j := 2) (e := (r5.2 != 0)) (want := false) rfl hb14 ?_
         refine o_pickF (v := .b false) (e := (decide (r6.1 ≥ r5.1))) (by decide) rfl hb17 rfl ?_
         refine o_guardY (j := 2) (e := (r5.2 != 0)) (want := false) rfl hb14 ?_
         refine o_move (v := .b false) (by decide) rfl ?_
         refine o_guardN (j := 15) (e := false) (want := true) (by decide) rfl rfl ?_
         refine o_guardN (j := 15) (e := false) (want := true) (by decide) rfl rfl ?_
         refine o_guardN (j := 15) (e := false) (want := true) (by decide) rfl rfl ?_
         refine o_guardY (j := 2) (e := (r5.2 != 0)) (want := false) rfl hb14 ?_
         refine o_pickF (v := .b false) (e := false) (by decide) rfl rfl rfl ?_
         refine o_pickF (v := .b false) (e := (r5.2 != 0)) (by decide) rfl hb14 rfl ?_
         refine o_move (v := .b false) (by decide) rfl ?_
         refine o_guardN (j := 21) (e := false) (want := true) (by decide) rfl rfl ?_
         refine o_pickF (v := .b false) (e := false) (by decide) rfl rfl rfl ?_
         refine o_assign (v := .b false) (by decide) rfl ?_
         refine run_nil ?_
         exact w_goto false (.k .nil) ⟨(hS.keep [] rfl).up (by omega), hM⟩
       ·replace hM := ifF hM hb16
        refine o_guardN (j := 5) (e := (r6.2 == 0)) (want := true) (by decide) rfl hb16 ?_
        refine o_guardN (j := 5) (e := (r6.2 == 0)) (want := true) (by decide) rfl hb16 ?_
        refine o_guardN (j := 5) (e := (r6.2 == 0)) (want := true) (by decide) rfl hb16 ?_
        refine o_guardY (j := 2) (e := (r5.2 != 0)) (want := false) rfl hb14 ?_
        refine o_pickF (v := .b false) (e := (r6.2 == 0)) (by decide) rfl hb16 rfl ?_
        refine o_guardY (j := 2) (e := (r5.2 != 0)) (want := false) rfl hb14 ?_
        refine o_move (v := .b false) (by decide) rfl ?_
        refine o_guardN (j := 10) (e := false) (want := true) (by decide) rfl rfl ?_
        refine o_guardN (j := 10) (e := false) (want := true) (by decide) rfl rfl ?_
        refine o_guardN (j := 10) (e := false) (want := true) (by decide) rfl rfl ?_
        refine o_guardY (j := 2) (e := (r5.2 != 0)) (want := false) rfl hb14 ?_
        refine o_pickF (v := .b false) (e := false) (by decide) rfl rfl rfl ?_
        refine o_guardY (j := 2) (e := (r5.2 != 0)) (want := false) rfl hb14 ?_
        refine o_move (v := .b false) (by decide) rfl ?_
        refine o_guardN (j := 15) (e := false) (want := true) (by decide) rfl rfl ?_
        refine o_guardN (j := 15) (e := false) (want := true) (by decide) rfl rfl ?_
        refine o_guardN (j := 15) (e := false) (want := true) (by decide) rfl rfl ?_
        refine o_guardY (j := 2) (e := (r5.2 != 0)) (want := false) rfl hb14 ?_
        refine o_pickF (v := .b false) (e := false) (by decide) rfl rfl rfl ?_
        refine o_pickF (v := .b false) (e := (r5.2 != 0)) (by decide) rfl hb14 rfl ?_
        refine o_move (v := .b false) (by decide) rfl ?_
        refine o_guardN (j := 21) (e := false) (want := true) (by decide) rfl rfl ?_
        refine o_pickF (v := .b false) (e := false) (by decide) rfl rfl rfl ?_
        refine o_assign (v := .b false) (by decide) rfl ?_
        refine run_nil ?_
        exact w_goto false (.k .nil) ⟨(hS.keep [] rfl).up (by omega), hM⟩
   ·refine r_region (n := 28) rfl ?_
    refine o_move (v := .i r5.2) (by decide) rfl ?_
    obtain ⟨r23, hr23, hM⟩ := bindE hM
    refine o_call (bs := [.i r5.2]) (by decide) rfl rfl ((W_law11_isKnown hr23).le (.k .nil)) ?_
    refine o_not (e := r23) (by decide) rfl ?_
    refine o_move (v := .b (!r23)) (by decide) rfl ?_
    rcases Bool.eq_false_or_eq_true (!r23) with hb24 | hb24
    ·replace hM := ifT hM hb24
     refine o_guardN (j := 3) (e := (!r23)) (want := false) (by decide) rfl hb24 ?_
     refine o_guardN (j := 3) (e := (!r23)) (want := false) (by decide) rfl hb24 ?_
     refine o_guardN (j := 3) (e := (!r23)) (want := false) (by decide) rfl hb24 ?_
     refine o_pickT (v := .b true) (e := (!r23)) (by decide) rfl hb24 rfl ?_
     refine o_move (v := .b true) (by decide) rfl ?_
     refine o_guardN (j := 8) (e := true) (want := false) (by decide) rfl rfl ?_
     refine o_guardN (j := 8) (e := true) (want := false) (by decide) rfl rfl ?_
     refine o_guardN (j := 8) (e := true) (want := false) (by decide) rfl rfl ?_
     refine o_pickT (v := .b true) (e := true) (by decide) rfl rfl rfl ?_
     refine o_move (v := .b true) (by decide) rfl ?_
     refine o_guardN (j := 13) (e := true) (want := false) (by decide) rfl rfl ?_
     refine o_guardN (j := 13) (e := true) (want := false) (by decide) rfl rfl ?_
     refine o_guardN (j := 13) (e := true) (want := false) (by decide) rfl rfl ?_
     refine o_pickT (v := .b true) (e := true) (by decide) rfl rfl rfl ?_
     refine o_move (v := .b true) (by decide) rfl ?_
     refine o_guardN (j := 18) (e := true) (want := false) (by decide) rfl rfl ?_
     refine o_guardN (j := 18) (e := true) (want := false) (by decide) rfl rfl ?_
     refine o_guardN (j := 18) (e := true) (want := false) (by decide) rfl rfl ?_
     refine o_pickT (v := .b true) (e := true) (by decide) rfl rfl rfl ?_
     refine o_move (v := .b true) (by decide) rfl ?_
     refine o_guardN (j := 23) (e := true) (want := false) (by decide) rfl rfl ?_
     refine o_guardN (j := 23) (e := true) (want := false) (by decide) rfl rfl ?_
     refine o_guardN (j := 23) (e := true) (want := false) (by decide) rfl rfl ?_
     refine o_pickT (v := .b true) (e := true) (by decide) rfl rfl rfl ?_
     refine run_nil ?_
     exact w_goto true (.k (.k (.k (.k (.k (.k (.k (.k (.k .nil))))))))) ⟨(hS.keep [] rfl).up (by omega), hM⟩
    ·replace hM := ifF hM hb24
     refine o_guardY (j := 3) (e := (!r23)) (want := false) rfl hb24 ?_
     refine o_move (v := .i r6.2) (by decide) rfl ?_
     refine o_guardY (j := 3) (e := (!r23)) (want := false) rfl hb24 ?_
     obtain ⟨r25, hr25, hM⟩ := bindE hM
     refine o_call (bs := [.i r6.2]) (by decide) rfl rfl ((W_law11_isKnown hr25).le (.k .nil)) ?_
     refine o_guardY (j := 3) (e := (!r23)) (want := false) rfl hb24 ?_
     refine o_not (e := r25) (by decide) rfl ?_
     refine o_pickF (v := .b (!r25)) (e := (!r23)) (by decide) rfl hb24 rfl ?_
     refine o_move (v := .b (!r25)) (by decide) rfl ?_
     rcases Bool.eq_false_or_eq_true (!r25) with hb26 | hb26
     ·replace hM := ifT hM hb26
      refine o_guardN (j := 8) (e := (!r25)) (want := false) (by decide) rfl hb26 ?_
      refine o_guardN (j := 8) (e := (!r25)) (want := false) (by decide) rfl hb26 ?_
      refine o_guardN (j := 8) (e := (!r25)) (want := false) (by decide) rfl hb26 ?_
      refine o_pickT (v := .b true) (e := (!r25)) (by decide) rfl hb26 rfl ?_
      refine o_move (v := .b true) (by decide) rfl ?_
      refine o_guardN (j := 13) (e := true) (want := false) (by decide) rfl rfl ?_
      refine o_guardN (j := 13) (e := true) (want := false) (by decide) rfl rfl ?_
      refine o_guardN (j := 13) (e := true) (want := false) (by decide) rfl rfl ?_
      refine o_pickT (v := .b true) (e := true) (by decide) rfl rfl rfl ?_
      refine o_move (v := .b true) (by decide) rfl ?_
      refine o_guardN (j := 18) (e := true) (want := false) (by decide) rfl rfl ?_
      refine o_guardN (j := 18) (e := true) (want := false) (by decide) rfl rfl ?_
      refine o_guardN (j := 18) (e := true) (want := false) (by decide) rfl rfl ?_
      refine o_pickT (v := .b true) (e := true) (by decide) rfl rfl rfl ?_
      refine o_move (v := .b true) (by decide) rfl ?_
      refine o_guardN (j := 23) (e := true) (want := false) (by decide) rfl rfl ?_
      refine o_guardN (j := 23) (e := true) (want := false) (by decide) rfl rfl ?_
      refine o_guardN (j := 23) (e := true) (want := false) (by decide) rfl rfl ?_
      refine o_pickT (v := .b true) (e := true) (by decide) rfl rfl rfl ?_
      refine run_nil ?_
      exact w_goto true (.k (.k (.k (.k (.k (.k (.k (.k (.k .nil))))))))) ⟨(hS.keep [] rfl).up (by omega), hM⟩
     ·replace hM := ifF hM hb26
      refine o_guardY (j := 8) (e := (!r25)) (want := false) rfl hb26 ?_
      refine o_move (v := .i r7.2) (by decide) rfl ?_
      refine o_guardY (j := 8) (e := (!r25)) (want := false) rfl hb26 ?_
      refine o_move (v := .i r5.2) (by decide) rfl ?_
      refine o_guardY (j := 8) (e := (!r25)) (want := false) rfl hb26 ?_
      refine o_int (v := .b (r7.2 != r5.2)) (by decide) rfl rfl rfl ?_
      refine o_pickF (v := .b (r7.2 != r5.2)) (e := (!r25)) (by decide) rfl hb26 rfl ?_
      refine o_move (v := .b (r7.2 != r5.2)) (by decide) rfl ?_
      rcases Bool.eq_false_or_eq_true (r7.2 != r5.2) with hb27 | hb27
      ·replace hM := ifT hM hb27
       refine o_guardN (j := 13) (e := (r7.2 != r5.2)) (want := false) (by decide) rfl hb27 ?_
       refine o_guardN (j := 13) (e := (r7.2 != r5.2)) (want := false) (by decide) rfl hb27 ?_
       refine o_guardN (j := 13) (e := (r7.2 != r5.2)) (want := false) (by decide) rfl hb27 ?_
       refine o_pickT (v := .b true) (e := (r7.2 != r5.2)) (by decide) rfl hb27 rfl ?_
       refine o_move (v := .b true) (by decide) rfl ?_
       refine o_guardN (j := 18) (e := true) (want := false) (by decide) rfl rfl ?_
       refine o_guardN (j := 18) (e := true) (want := false) (by decide) rfl rfl ?_
       refine o_guardN (j := 18) (e := true) (want := false) (by decide) rfl rfl ?_
       refine o_pickT (v := .b true) (e := true) (by decide) rfl rfl rfl ?_
       refine o_move (v := .b true) (by decide) rfl ?_
       refine o_guardN (j := 23) (e := true) (want := false) (by decide) rfl rfl ?_
       refine o_guardN (j := 23) (e := true) (want := false) (by decide) rfl rfl ?_
       refine o_guardN (j := 23) (e := true) (want := false) (by decide) rfl rfl ?_
       refine o_pickT (v := .b true) (e := true) (by decide) rfl rfl rfl ?_
       refine run_nil ?_
       exact w_goto true (.k (.k (.k (.k (.k (.k (.k (.k (.k .nil))))))))) ⟨(hS.keep [] rfl).up (by omega), hM⟩
      ·replace hM := ifF hM hb27
       refine o_guardY (j := 13) (e := (r7.2 != r5.2)) (want := false) rfl hb27 ?_
       refine o_move (v := .i r9.2) (by decide) rfl ?_
       refine o_guardY (j := 13) (e := (r7.2 != r5.2)) (want := false) rfl hb27 ?_
       refine o_move (v := .i r5.2) (by decide) rfl ?_
       refine o_guardY (j := 13) (e := (r7.2 != r5.2)) (want := false) rfl hb27 ?_
       refine o_int (v := .b (r9.2 != r5.2)) (by decide) rfl rfl rfl ?_
       refine o_pickF (v := .b (r9.2 != r5.2)) (e := (r7.2 != r5.2)) (by decide) rfl hb27 rfl ?_
       refine o_move (v := .b (r9.2 != r5.2)) (by decide) rfl ?_
       rcases Bool.eq_false_or_eq_true (r9.2 != r5.2) with hb28 | hb28
       ·replace hM := ifT hM hb28
        refine o_guardN (j := 18) (e := (r9.2 != r5.2)) (want := false) (by decide) rfl hb28 ?_
        refine o_guardN (j := 18) (e := (r9.2 != r5.2)) (want := false) (by decide) rfl hb28 ?_
        refine o_guardN (j := 18) (e := (r9.2 != r5.2)) (want := false) (by decide) rfl hb28 ?_
        refine o_pickT (v := .b true) (e := (r9.2 != r5.2)) (by decide) rfl hb28 rfl ?_
        refine o_move (v := .b true) (by decide) rfl ?_
        refine o_guardN (j := 23) (e := true) (want := false) (by decide) rfl rfl ?_
        refine o_guardN (j := 23) (e := true) (want := false) (by decide) rfl rfl ?_
        refine o_guardN (j := 23) (e := true) (want := false) (by decide) rfl rfl ?_
        refine o_pickT (v := .b true) (e := true) (by decide) rfl rfl rfl ?_
        refine run_nil ?_
        exact w_goto true (.k (.k (.k (.k (.k (.k (.k (.k (.k .nil))))))))) ⟨(hS.keep [] rfl).up (by omega), hM⟩
       ·replace hM := ifF hM hb28
        refine o_guardY (j := 18) (e := (r9.2 != r5.2)) (want := false) rfl hb28 ?_
        refine o_move (v := .i r8.2) (by decide) rfl ?_
        refine o_guardY (j := 18) (e := (r9.2 != r5.2)) (want := false) rfl hb28 ?_
        refine o_move (v := .i r6.2) (by decide) rfl ?_
        refine o_guardY (j := 18) (e := (r9.2 != r5.2)) (want := false) rfl hb28 ?_
        refine o_int (v := .b (r8.2 != r6.2)) (by decide) rfl rfl rfl ?_
        refine o_pickF (v := .b (r8.2 != r6.2)) (e := (r9.2 != r5.2)) (by decide) rfl hb28 rfl ?_
        refine o_move (v := .b (r8.2 != r6.2)) (by decide) rfl ?_
        rcases Bool.eq_false_or_eq_true (r8.2 != r6.2) with hb29 | hb29
        ·replace hM := ifT hM hb29
         refine o_guardN (j := 23) (e := (r8.2 != r6.2)) (want := false) (by decide) rfl hb29 ?_
         refine o_guardN (j := 23) (e := (r8.2 != r6.2)) (want := false) (by decide) rfl hb29 ?_
         refine o_guardN (j := 23) (e := (r8.2 != r6.2)) (want := false) (by decide) rfl hb29 ?_
         refine o_pickT (v := .b true) (e := (r8.2 != r6.2)) (by decide) rfl hb29 rfl ?_
         refine run_nil ?_
         exact w_goto true (.k (.k (.k (.k (.k (.k (.k (.k (.k .nil))))))))) ⟨(hS.keep [] rfl).up (by omega), hM⟩
        ·replace hM := ifF hM hb29
         refine o_guardY (j := 23) (e := (r8.2 != r6.2)) (want := false) rfl hb29 ?_
         refine o_move (v := .i r10.2) (by decide) rfl ?_
         refine o_guardY (j := 23) (e := (r8.2 != r6.2)) (want := false) rfl hb29 ?_
         refine o_move (v := .i r6.2) (by decide) rfl ?_
         refine o_guardY (j := 23) (e := (r8.2 != r6.2)) (want := false) rfl hb29 ?_
         refine o_int (v := .b (r10.2 != r6.2)) (by decide) rfl rfl rfl ?_
         refine o_pickF (v := .b (r10.2 != r6.2)) (e := (r8.2 != r6.2)) (by decide) rfl hb29 rfl ?_
         refine run_nil ?_
         exact w_goto (r10.2 != r6.2) (.k (.k (.k (.k (.k (.k (.k (.k (.k .nil))))))))) ⟨(hS.keep [] rfl).up (by omega), hM⟩
 ·refine r_region (n := 8) rfl ?_
  refine o_loadE (v := .agg (Wire.cells a0)) (by decide) rfl (part_agg ty_agg24 (Nat.le_of_ble_eq_true rfl) rfl) ?_
  obtain ⟨r30, hr30, hM⟩ := bindE hM
  refine o_call (bs := [.agg (Wire.cells a0)]) (by decide) rfl rfl ((W_law11_ready hr30).le (.k .nil)) ?_
  refine o_not (e := r30) (by decide) rfl ?_
  refine o_move (v := .b (!r30)) (by decide) rfl ?_
  rcases Bool.eq_false_or_eq_true (!r30) with hb31 | hb31
  ·replace hM := ifT hM hb31
   refine o_guardN (j := 3) (e := (!r30)) (want := false) (by decide) rfl hb31 ?_
   refine o_guardN (j := 3) (e := (!r30)) (want := false) (by decide) rfl hb31 ?_
   refine o_guardN (j := 3) (e := (!r30)) (want := false) (by decide) rfl hb31 ?_
   refine o_pickT (v := .b true) (e := (!r30)) (by decide) rfl hb31 rfl ?_
   refine run_nil ?_
   exact w_goto true (.k (.k (.k .nil))) ⟨(hS.keep [true] rfl).up (by omega), hM⟩
  ·replace hM := ifF hM hb31
   refine o_guardY (j := 3) (e := (!r30)) (want := false) rfl hb31 ?_
   refine o_load (v := .agg [.i r1.Letters, .i r1.Numbers, .sl .no 3 (r1.Presses.map WirePress.cells), .i (w64 (r1.Faults + 1))]) 0 hS (by decide) rfl rfl .no (part_agg ty_agg24 (Nat.le_of_ble_eq_true rfl) rfl) ?_
   refine o_guardY (j := 3) (e := (!r30)) (want := false) rfl hb31 ?_
   obtain ⟨r32, hr32, hM⟩ := bindE hM
   refine o_call (bs := [.agg [.i r1.Letters, .i r1.Numbers, .sl .no 3 (r1.Presses.map WirePress.cells), .i (w64 (r1.Faults + 1))]]) (by decide) rfl rfl ((W_law11_ready hr32).le (.k .nil)) ?_
   refine o_guardY (j := 3) (e := (!r30)) (want := false) rfl hb31 ?_
   refine o_not (e := r32) (by decide) rfl ?_
   refine o_pickF (v := .b (!r32)) (e := (!r30)) (by decide) rfl hb31 rfl ?_
   refine run_nil ?_
   exact w_goto (!r32) (.k (.k (.k .nil))) ⟨(hS.keep [true] rfl).up (by omega), hM⟩
end Go.Proofs.Ytneghcnkcfblmaa
