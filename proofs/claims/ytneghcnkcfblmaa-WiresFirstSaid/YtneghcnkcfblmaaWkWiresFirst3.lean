/-
  The code returns what the functions say (printed by gen.py).
  Conditions: none.
-/
import Derived.Test.YtneghcnkcfblmaaWkWiresFirst2
import Derived.Test.YtneghcnkcfblmaaSh
set_option linter.all false
namespace Go.Proofs.Ytneghcnkcfblmaa
open Go Go.AM Go.Law
set_option linter.unusedVariables false
set_option maxRecDepth 4000
set_option maxHeartbeats 4000000
theorem W_law11_WiresFirst {n : Nat} {a0 : Wire} {r : Bool} (hM : law11_WiresFirst n a0 = some r) : PureSat Try.prog 9 [.agg (Wire.cells a0)] (.b r) := by
 refine pure_of_wp mixed Try.func9 rfl (by decide) Try.ntmps9 (by simp) ?pure fun H0 g hf => ?_
 case pure => exact .v _
 rw [frame0_of]
 change wpA _ _ _ _ (Fr.of [(0, .agg (Wire.cells a0))]) H0 g
 have hS := St.start hf
 refine r_seq ?_
 refine r_region (n := 2) rfl ?_
 refine o_box (v := .agg (Wire.cells a0)) (cs := (Wire.cells a0)) hS (by decide) rfl rfl (by omega) fun H hS => ?_
 refine o_assign (v := .b false) (by decide) rfl ?_
 refine run_nil ?_
 refine w_iceE (L' := []) 0 1 hS rfl rfl rfl fun H hS => ?_
 refine w_next [(1, .ep (Wire.cells a0))] (.k .nil) ?_
 refine r_seq ?_
 refine r_seq ?_
 refine r_region (n := 3) rfl ?_
 refine o_loadE (v := .agg (Wire.cells a0)) (by decide) rfl (part_agg ty_agg24 (Nat.le_of_ble_eq_true rfl) rfl) ?_
 obtain ⟨r1, hr1, hM⟩ := bindE hM
 refine o_call (bs := [.agg (Wire.cells a0)]) (by decide) rfl rfl ((W_law11_ready hr1).le (.k .nil)) ?_
 refine o_not (e := r1) (by decide) rfl ?_
 refine run_nil ?_
 refine w_next [(1, .ep (Wire.cells a0)), (15, .b (!r1))] (.k (.k .nil)) ?_
 rcases Bool.eq_false_or_eq_true (!r1) with hb2 | hb2
 ·replace hM := ifT hM hb2
  refine w_condT (e := (!r1)) rfl hb2 ?_
  refine r_seq ?_
  refine r_region (n := 2) rfl ?_
  obtain ⟨r3, hr3, hM⟩ := bindE hM
  refine o_call (bs := []) (by decide) rfl rfl ((W_law11_works hr3).le .nil) ?_
  refine o_assign (v := .b r3) (by decide) rfl ?_
  refine run_nil ?_
  refine w_next [(2, .b r3)] (.k .nil) ?_
  refine r_ret ?_
  refine r_then_ret ?_
  refine w_end (x := .b r3) (f := fun r => .b r) (.inr rfl) ?_ (.refl _) (Option.some.inj hM) hS
  exact (res_one (res_tmp (x := .b r3) rfl))
 ·replace hM := ifF hM hb2
  refine w_condF (e := (!r1)) rfl hb2 ?_
  refine r_skip ?_
  refine w_next [(1, .ep (Wire.cells a0))] (.k .nil) ?_
  refine r_seq ?_
  refine r_region (n := 7) rfl ?_
  refine o_loadE (v := .agg (Wire.cells a0)) (by decide) rfl (part_agg ty_agg24 (Nat.le_of_ble_eq_true rfl) rfl) ?_
  obtain ⟨r4, hr4, hM⟩ := bindE hM
  refine o_call (bs := [.agg (Wire.cells a0)]) (by decide) rfl rfl ((W_wires_First hr4).le (.k .nil)) ?_
  refine o_move (v := .tup [.i r4.1, .i r4.2]) (by decide) rfl ?_
  refine o_extract (v := .i r4.1) (by decide) rfl rfl ?_
  refine o_extract (v := .i r4.2) (by decide) rfl rfl ?_
  refine o_assign (v := .i r4.1) (by decide) rfl ?_
  refine o_assign (v := .i r4.2) (by decide) rfl ?_
  refine run_nil ?_
  refine w_next [(1, .ep (Wire.cells a0)), (3, .i r4.1), (4, .i r4.2)] (.k (.k (.k .nil))) ?_
  refine r_seq ?_
  refine r_region (n := 7) rfl ?_
  refine o_loadE (v := .agg (Wire.cells a0)) (by decide) rfl (part_agg ty_agg24 (Nat.le_of_ble_eq_true rfl) rfl) ?_
  obtain ⟨r5, hr5, hM⟩ := bindE hM
  refine o_call (bs := [.agg (Wire.cells a0)]) (by decide) rfl rfl ((W_wires_Many hr5).le (.k .nil)) ?_
  refine o_move (v := .tup [.i r5.1, .i r5.2]) (by decide) rfl ?_
  refine o_extract (v := .i r5.1) (by decide) rfl rfl ?_
  refine o_extract (v := .i r5.2) (by decide) rfl rfl ?_
  refine o_assign (v := .i r5.1) (by decide) rfl ?_
  refine o_assign (v := .i r5.2) (by decide) rfl ?_
  refine run_nil ?_
  refine w_next [(1, .ep (Wire.cells a0)), (3, .i r4.1), (4, .i r4.2), (6, .i r5.2)] (.k (.k (.k (.k .nil)))) ?_
  refine r_seq ?_
  refine w_join (J := Bool) (fun j => [(1, .ep (Wire.cells a0)), (3, .i r4.1), (4, .i r4.2), (41, .b j)]) (fun j H' g' => St (· < g) H0 [] H' g' ∧ law11_WiresFirst_j1 n a0 r4 j = some r) ?_ ?_
  ·rintro v6 H g1 ⟨hS, hM⟩
   change wpA _ _ _ _ (Fr.of [(1, .ep (Wire.cells a0)), (3, .i r4.1), (4, .i r4.2), (41, .b v6)]) _ _
   replace hS : St (· < g) H0 [] H g1 := hS
   replace hM : law11_WiresFirst_j1 n a0 r4 v6 = some r := hM
   rcases Bool.eq_false_or_eq_true v6 with hb7 | hb7
   ·replace hM := ifT hM hb7
    refine w_condT (e := v6) rfl hb7 ?_
    refine r_seq ?_
    refine r_region (n := 1) rfl ?_
    refine o_assign (v := .b false) (by decide) rfl ?_
    refine run_nil ?_
    refine w_next [(2, .b false)] (.k .nil) ?_
    refine r_ret ?_
    refine r_then_ret ?_
    refine w_end (x := .b false) (f := fun r => .b r) (.inr rfl) ?_ (.refl _) (Option.some.inj hM) hS
    exact (res_one (res_tmp (x := .b false) rfl))
   ·replace hM := ifF hM hb7
    refine w_condF (e := v6) rfl hb7 ?_
    refine r_skip ?_
    refine w_next [(1, .ep (Wire.cells a0)), (3, .i r4.1), (4, .i r4.2)] (.k (.k (.k .nil))) ?_
    refine r_seq ?_
    refine r_seq ?_
    refine r_region (n := 2) rfl ?_
    refine o_move (v := .i r4.2) (by decide) rfl ?_
    refine o_int (v := .b (r4.2 != 0)) (by decide) rfl rfl rfl ?_
    refine run_nil ?_
    refine w_next [(1, .ep (Wire.cells a0)), (3, .i r4.1), (43, .b (r4.2 != 0))] (.k (.k (.k .nil))) ?_
    rcases Bool.eq_false_or_eq_true (r4.2 != 0) with hb8 | hb8
    ·replace hM := ifT hM hb8
     refine w_condT (e := (r4.2 != 0)) rfl hb8 ?_
     refine r_seq ?_
     refine r_region (n := 2) rfl ?_
     obtain ⟨r9, hr9, hM⟩ := bindE hM
     refine o_call (bs := []) (by decide) rfl rfl ((W_law11_works hr9).le .nil) ?_
     refine o_assign (v := .b r9) (by decide) rfl ?_
     refine run_nil ?_
     refine w_next [(2, .b r9)] (.k .nil) ?_
     refine r_ret ?_
     refine r_then_ret ?_
     refine w_end (x := .b r9) (f := fun r => .b r) (.inr rfl) ?_ (.refl _) (Option.some.inj hM) hS
     exact (res_one (res_tmp (x := .b r9) rfl))
    ·replace hM := ifF hM hb8
     refine w_condF (e := (r4.2 != 0)) rfl hb8 ?_
     refine r_skip ?_
     refine w_next [(1, .ep (Wire.cells a0)), (3, .i r4.1)] (.k (.k .nil)) ?_
     refine r_seq ?_
     refine w_join (J := Bool) (fun j => [(1, .ep (Wire.cells a0)), (3, .i r4.1), (53, .b j)]) (fun j H' g' => St (· < g) H0 [] H' g' ∧ law11_WiresFirst_j2 n a0 r4 j = some r) ?_ ?_
     ·rintro v10 H g2 ⟨hS, hM⟩
      change wpA _ _ _ _ (Fr.of [(1, .ep (Wire.cells a0)), (3, .i r4.1), (53, .b v10)]) _ _
      replace hS : St (· < g) H0 [] H g2 := hS
      replace hM : law11_WiresFirst_j2 n a0 r4 v10 = some r := hM
      rcases Bool.eq_false_or_eq_true v10 with hb11 | hb11
      ·replace hM := ifT hM hb11
       refine w_condT (e := v10) rfl hb11 ?_
       refine r_seq ?_
       refine r_region (n := 1) rfl ?_
       refine o_assign (v := .b false) (by decide) rfl ?_
       refine run_nil ?_
       refine w_next [(2, .b false)] (.k .nil) ?_
       refine r_ret ?_
       refine r_then_ret ?_
       refine w_end (x := .b false) (f := fun r => .b r) (.inr rfl) ?_ (.refl _) (Option.some.inj hM) hS
       exact (res_one (res_tmp (x := .b false) rfl))
      ·replace hM := ifF hM hb11
       refine w_condF (e := v10) rfl hb11 ?_
       refine r_skip ?_
       refine w_next [(1, .ep (Wire.cells a0)), (3, .i r4.1)] (.k (.k .nil)) ?_
       refine r_seq ?_
       have hS0 := hS
       refine r_draw (n := 8) rfl (by kernel_rfl) ?_
       refine o_loadE (v := .agg (Wire.cells a0)) (by decide) rfl (part_agg ty_agg24 (Nat.le_of_ble_eq_true rfl) rfl) ?_
       obtain ⟨r12, hr12, hM⟩ := bindE hM
       refine o_call (bs := [.agg (Wire.cells a0)]) (by decide) rfl rfl ((W_ref11_Copy hr12).le (.k .nil)) ?_
       refine o_loadE (v := .agg (Wire.cells a0)) (by decide) rfl (part_agg ty_agg24 (Nat.le_of_ble_eq_true rfl) rfl) ?_
       obtain ⟨r13, hr13, hM⟩ := bindE hM
       refine o_call (bs := [.agg (Wire.cells a0)]) (by decide) rfl rfl ((W_ref11_Copy hr13).le (.k .nil)) ?_
       refine o_alloc hS (by decide) ty_zero24 (by omega) fun H hS => ?_
       refine o_alloc hS (by decide) ty_zero24 (by omega) fun H hS => ?_
       refine o_store (v := .agg (Wire.cells r12)) (ns := (Wire.cells r12)) (L' := [(g2 + 5, .cells [.i 0, .i 0, .sl .nil 0 [], .i 0]), (g2 + 4, .cells (Wire.cells r12))]) 1 hS rfl rfl (.behind (by kernel_rfl)) rfl rfl ty_var24 (Nat.le_of_ble_eq_true rfl) rfl fun H hS => ?_
       refine o_store (v := .agg (Wire.cells r13)) (ns := (Wire.cells r13)) (L' := [(g2 + 5, .cells (Wire.cells r13)), (g2 + 4, .cells (Wire.cells r12))]) 0 hS rfl rfl (.behind (by kernel_rfl)) rfl rfl ty_var24 (Nat.le_of_ble_eq_true rfl) rfl fun H hS => ?_
       refine run_nil ?_
       refine w_next [(3, .i r4.1), (7, .ptr (g2 + 4) 0), (8, .ptr (g2 + 5) 0)] (.k (.k (.k .nil))) ?_
       refine r_seq ?_
       have hS0 := hS
       refine r_drawX (n := 13) [(67, 62)] rfl (by kernel_rfl) (by kernel_rfl) ?_
       refine o_fieldP (by decide) ty_fo24_2 rfl ?_
       refine o_load (v := .sl .no 3 (r12.Presses.map WirePress.cells)) 1 hS (by decide) rfl rfl (.st hS0 1 rfl (by omega)) (part_one ty_agg22 ty_sc22 rfl) ?_
       refine o_move (v := .i r4.1) (by decide) rfl ?_
       obtain ⟨c14, hc14, hM⟩ := bindE hM
       refine o_slice (xs := r12.Presses) (ys := c14) (f := WirePress.cells) (p := 0) (q := r4.1) (by decide) rfl ty_es22 (.inl ⟨rfl, rfl⟩) (.inr rfl) hc14 ?_
       refine o_fieldP (by decide) ty_fo24_2 rfl ?_
       refine o_load (v := .sl .no 3 (r13.Presses.map WirePress.cells)) 0 hS (by decide) rfl rfl (.st hS0 0 rfl (by omega)) (part_one ty_agg22 ty_sc22 rfl) ?_
       refine o_move (v := .i r4.1) (by decide) rfl ?_
       refine o_int (v := .i (w64 (r4.1 + 1))) (by decide) rfl rfl rfl ?_
       obtain ⟨c15, hc15, hM⟩ := bindE hM
       refine o_slice (xs := r13.Presses) (ys := c15) (f := WirePress.cells) (p := 0) (q := (w64 (r4.1 + 1))) (by decide) rfl ty_es22 (.inl ⟨rfl, rfl⟩) (.inr rfl) hc15 ?_
       refine o_fieldP (by decide) ty_fo24_2 rfl ?_
       refine o_store (v := .sl .no 3 (c14.map WirePress.cells)) (ns := [.sl .no 3 (c14.map WirePress.cells)]) (L' := [(g2 + 5, .cells (Wire.cells r13)), (g2 + 4, .cells [.i r12.Letters, .i r12.Numbers, .sl .no 3 (c14.map WirePress.cells), .i r12.Faults])]) 1 hS rfl rfl (.st hS0 1 rfl (by omega)) rfl rfl ty_var22 (Nat.le_of_ble_eq_true rfl) rfl fun H hS => ?_
       refine o_fieldP (by decide) ty_fo24_2 rfl ?_
       refine o_store (v := .sl .no 3 (c15.map WirePress.cells)) (ns := [.sl .no 3 (c15.map WirePress.cells)]) (L' := [(g2 + 5, .cells [.i r13.Letters, .i r13.Numbers, .sl .no 3 (c15.map WirePress.cells), .i r13.Faults]), (g2 + 4, .cells [.i r12.Letters, .i r12.Numbers, .sl .no 3 (c14.map WirePress.cells), .i r12.Faults])]) 0 hS rfl rfl (.st hS0 0 rfl (by omega)) rfl rfl ty_var22 (Nat.le_of_ble_eq_true rfl) rfl fun H hS => ?_
       refine run_nil ?_
       refine ⟨(sep_cons (hS.ne (n := 1) (m := 0) rfl rfl (by decide)) sep_nil), ?_⟩
       refine w_next [(7, .ptr (g2 + 4) 0), (8, .ptr (g2 + 5) 0)] (.k (.k .nil)) ?_
       refine r_seq ?_
       refine r_region (n := 7) rfl ?_
       refine o_load (v := .agg [.i r12.Letters, .i r12.Numbers, .sl .no 3 (c14.map WirePress.cells), .i r12.Faults]) 1 hS (by decide) rfl rfl .no (part_agg ty_agg24 (Nat.le_of_ble_eq_true rfl) rfl) ?_
       obtain ⟨r16, hr16, hM⟩ := bindE hM
       refine o_call (bs := [.agg [.i r12.Letters, .i r12.Numbers, .sl .no 3 (c14.map WirePress.cells), .i r12.Faults]]) (by decide) rfl rfl ((W_wires_Many hr16).le (.k .nil)) ?_
       refine o_move (v := .tup [.i r16.1, .i r16.2]) (by decide) rfl ?_
       refine o_extract (v := .i r16.1) (by decide) rfl rfl ?_
       refine o_extract (v := .i r16.2) (by decide) rfl rfl ?_
       refine o_assign (v := .i r16.1) (by decide) rfl ?_
       refine o_assign (v := .i r16.2) (by decide) rfl ?_
       refine run_nil ?_
       replace hS := hS.keep (L' := [(g2 + 5, .cells [.i r13.Letters, .i r13.Numbers, .sl .no 3 (c15.map WirePress.cells), .i r13.Faults])]) [true, false] rfl
       refine w_next [(8, .ptr (g2 + 5) 0), (10, .i r16.2)] (.k (.k .nil)) ?_
       refine r_seq ?_
       refine r_region (n := 7) rfl ?_
       refine o_load (v := .agg [.i r13.Letters, .i r13.Numbers, .sl .no 3 (c15.map WirePress.cells), .i r13.Faults]) 0 hS (by decide) rfl rfl .no (part_agg ty_agg24 (Nat.le_of_ble_eq_true rfl) rfl) ?_
       obtain ⟨r17, hr17, hM⟩ := bindE hM
       refine o_call (bs := [.agg [.i r13.Letters, .i r13.Numbers, .sl .no 3 (c15.map WirePress.cells), .i r13.Faults]]) (by decide) rfl rfl ((W_wires_Many hr17).le (.k .nil)) ?_
       refine o_move (v := .tup [.i r17.1, .i r17.2]) (by decide) rfl ?_
       refine o_extract (v := .i r17.1) (by decide) rfl rfl ?_
       refine o_extract (v := .i r17.2) (by decide) rfl rfl ?_
       refine o_assign (v := .i r17.1) (by decide) rfl ?_
       refine o_assign (v := .i r17.2) (by decide) rfl ?_
       refine run_nil ?_
       replace hS := hS.keep (L' := []) [false] rfl
       refine w_next [(10, .i r16.2), (12, .i r17.2)] (.k (.k .nil)) ?_
       refine w_join (J := Bool) (fun j => [(2, .b j)]) (fun j H' g' => St (· < g) H0 [] H' g' ∧ law11_WiresFirst_j3 j = some r) ?_ ?_
       ·rintro v18 H g3 ⟨hS, hM⟩
        change wpA _ _ _ _ (Fr.of [(2, .b v18)]) _ _
        replace hS : St (· < g) H0 [] H g3 := hS
        replace hM : law11_WiresFirst_j3 v18 = some r := hM
        refine r_ret ?_
        refine w_end (x := .b v18) (f := fun r => .b r) (.inr rfl) ?_ (.refl _) (Option.some.inj hM) hS
        exact (res_one (res_tmp (x := .b v18) rfl))
       ·refine r_region (n := 10) rfl ?_
        refine o_move (v := .i r16.2) (by decide) rfl ?_
        refine o_int (v := .b (r16.2 == 0)) (by decide) rfl rfl rfl ?_
        refine o_move (v := .b (r16.2 == 0)) (by decide) rfl ?_
        rcases Bool.eq_false_or_eq_true (r16.2 == 0) with hb19 | hb19
        ·replace hM := ifT hM hb19
         refine o_guardY (j := 2) (e := (r16.2 == 0)) (want := true) rfl hb19 ?_
         refine o_move (v := .i r17.2) (by decide) rfl ?_
         refine o_guardY (j := 2) (e := (r16.2 == 0)) (want := true) rfl hb19 ?_
         refine o_int (v := .b (r17.2 == 3)) (by decide) rfl rfl rfl ?_
         refine o_pickT (v := .b (r17.2 == 3)) (e := (r16.2 == 0)) (by decide) rfl hb19 rfl ?_
         refine o_move (v := .b (r17.2 == 3)) (by decide) rfl ?_
         rcases Bool.eq_false_or_eq_true (r17.2 == 3) with hb20 | hb20
         ·replace hM := ifT hM hb20
          refine o_guardY (j := 6) (e := (r17.2 == 3)) (want := true) rfl hb20 ?_
          obtain ⟨r21, hr21, hM⟩ := bindE hM
          refine o_call (bs := []) (by decide) rfl rfl ((W_law11_works hr21).le .nil) ?_
          refine o_pickT (v := .b r21) (e := (r17.2 == 3)) (by decide) rfl hb20 rfl ?_
          refine o_assign (v := .b r21) (by decide) rfl ?_
          refine run_nil ?_
          exact w_goto r21 (.k .nil) ⟨(hS.keep [] rfl).up (by omega), hM⟩
         ·replace hM := ifF hM hb20
          refine o_guardN (j := 6) (e := (r17.2 == 3)) (want := true) (by decide) rfl hb20 ?_
          refine o_pickF (v := .b false) (e := (r17.2 == 3)) (by decide) rfl hb20 rfl ?_
          refine o_assign (v := .b false) (by decide) rfl ?_
          refine run_nil ?_
          exact w_goto false (.k .nil) ⟨(hS.keep [] rfl).up (by omega), hM⟩
        ·replace hM := ifF hM hb19
         refine o_guardN (j := 2) (e := (r16.2 == 0)) (want := true) (by decide) rfl hb19 ?_
         refine o_guardN (j := 2) (e := (r16.2 == 0)) (want := true) (by decide) rfl hb19 ?_
         refine o_pickF (v := .b false) (e := (r16.2 == 0)) (by decide) rfl hb19 rfl ?_
         refine o_move (v := .b false) (by decide) rfl ?_
         refine o_guardN (j := 6) (e := false) (want := true) (by decide) rfl rfl ?_
         refine o_pickF (v := .b false) (e := false) (by decide) rfl rfl rfl ?_
         refine o_assign (v := .b false) (by decide) rfl ?_
         refine run_nil ?_
         exact w_goto false (.k .nil) ⟨(hS.keep [] rfl).up (by omega), hM⟩
     ·refine r_region (n := 9) rfl ?_
      refine o_move (v := .i r4.1) (by decide) rfl ?_
      refine o_int (v := .b (decide (r4.1 < 0))) (by decide) rfl rfl rfl ?_
      refine o_move (v := .b (decide (r4.1 < 0))) (by decide) rfl ?_
      rcases Bool.eq_false_or_eq_true (decide (r4.1 < 0)) with hb22 | hb22
      ·replace hM := ifT hM hb22
       refine o_guardN (j := 2) (e := (decide (r4.1 < 0))) (want := false) (by decide) rfl hb22 ?_
       refine o_guardN (j := 2) (e := (decide (r4.1 < 0))) (want := false) (by decide) rfl hb22 ?_
       refine o_guardN (j := 2) (e := (decide (r4.1 < 0))) (want := false) (by decide) rfl hb22 ?_
       refine o_guardN (j := 2) (e := (decide (r4.1 < 0))) (want := false) (by decide) rfl hb22 ?_
       refine o_guardN (j := 2) (e := (decide (r4.1 < 0))) (want := false) (by decide) rfl hb22 ?_
       refine o_pickT (v := .b true) (e := (decide (r4.1 < 0))) (by decide) rfl hb22 rfl ?_
       refine run_nil ?_
       exact w_goto true (.k (.k (.k .nil))) ⟨(hS.keep [] rfl).up (by omega), hM⟩
      ·replace hM := ifF hM hb22
       refine o_guardY (j := 2) (e := (decide (r4.1 < 0))) (want := false) rfl hb22 ?_
       refine o_move (v := .i r4.1) (by decide) rfl ?_
       refine o_guardY (j := 2) (e := (decide (r4.1 < 0))) (want := false) rfl hb22 ?_
       refine o_fieldE (cs := (Wire.cells a0)) (by decide) ty_fo24_2 rfl ?_
       refine o_guardY (j := 2) (e := (decide (r4.1 < 0))) (want := false) rfl hb22 ?_
       refine o_loadE (v := .sl .no 3 (a0.Presses.map WirePress.cells)) (by decide) rfl (part_one ty_agg22 ty_sc22 rfl) ?_
       refine o_guardY (j := 2) (e := (decide (r4.1 < 0))) (want := false) rfl hb22 ?_
       refine o_len (n := a0.Presses.length) (by decide) rfl (List.length_map _) ty_isl22 ?_
       refine o_guardY (j := 2) (e := (decide (r4.1 < 0))) (want := false) rfl hb22 ?_
       refine o_int (v := .b (decide (r4.1 ≥ (a0.Presses.length : Int)))) (by decide) rfl rfl rfl ?_
       refine o_pickF (v := .b (decide (r4.1 ≥ (a0.Presses.length : Int)))) (e := (decide (r4.1 < 0))) (by decide) rfl hb22 rfl ?_
       refine run_nil ?_
       exact w_goto (decide (r4.1 ≥ (a0.Presses.length : Int))) (.k (.k (.k .nil))) ⟨(hS.keep [] rfl).up (by omega), hM⟩
  ·refine r_region (n := 15) rfl ?_
   refine o_move (v := .i r4.2) (by decide) rfl ?_
   obtain ⟨r23, hr23, hM⟩ := bindE hM
   refine o_call (bs := [.i r4.2]) (by decide) rfl rfl ((W_law11_isKnown hr23).le (.k .nil)) ?_
   refine o_not (e := r23) (by decide) rfl ?_
   refine o_move (v := .b (!r23)) (by decide) rfl ?_
   rcases Bool.eq_false_or_eq_true (!r23) with hb24 | hb24
   ·replace hM := ifT hM hb24
    refine o_guardN (j := 3) (e := (!r23)) (want := false) (by decide) rfl hb24 ?_
    refine o_guardN (j := 3) (e := (!r23)) (want := false) (by decide) rfl hb24 ?_
    refine o_guardN (j := 3) (e := (!r23)) (want := false) (by decide) rfl hb24 ?_
    refine o_pickT (v := .b true) (e := (!r23)) (by decide) rfl hb24 rfl ?_
    refine o_move (v := .b true) (by decide) rfl ?_
    refine o_guardN (j := 8) (e := true) (want := false) (by decide) rfl rfl ?_
    refine o_guardN (j := 8) (e := true) (want := false) (by decide) rfl rfl ?_
    refine o_guardN (j := 8) (e := true) (want := false) (by decide) rfl rfl ?_
    refine o_guardN (j := 8) (e := true) (want := false) (by decide) rfl rfl ?_
    refine o_guardN (j := 8) (e := true) (want := false) (by decide) rfl rfl ?_
    refine o_pickT (v := .b true) (e := true) (by decide) rfl rfl rfl ?_
    refine run_nil ?_
    exact w_goto true (.k (.k (.k (.k .nil)))) ⟨(hS.keep [] rfl).up (by omega), hM⟩
   ·replace hM := ifF hM hb24
    refine o_guardY (j := 3) (e := (!r23)) (want := false) rfl hb24 ?_
    refine o_move (v := .i r5.2) (by decide) rfl ?_
    refine o_guardY (j := 3) (e := (!r23)) (want := false) rfl hb24 ?_
    obtain ⟨r25, hr25, hM⟩ := bindE hM
    refine o_call (bs := [.i r5.2]) (by decide) rfl rfl ((W_law11_isKnown hr25).le (.k .nil)) ?_
    refine o_guardY (j := 3) (e := (!r23)) (want := false) rfl hb24 ?_
    refine o_not (e := r25) (by decide) rfl ?_
    refine o_pickF (v := .b (!r25)) (e := (!r23)) (by decide) rfl hb24 rfl ?_
    refine o_move (v := .b (!r25)) (by decide) rfl ?_
    rcases Bool.eq_false_or_eq_true (!r25) with hb26 | hb26
    ·replace hM := ifT hM hb26
     refine o_guardN (j := 8) (e := (!r25)) (want := false) (by decide) rfl hb26 ?_
     refine o_guardN (j := 8) (e := (!r25)) (want := false) (by decide) rfl hb26 ?_
     refine o_guardN (j := 8) (e := (!r25)) (want := false) (by decide) rfl hb26 ?_
     refine o_guardN (j := 8) (e := (!r25)) (want := false) (by decide) rfl hb26 ?_
     refine o_guardN (j := 8) (e := (!r25)) (want := false) (by decide) rfl hb26 ?_
     refine o_pickT (v := .b true) (e := (!r25)) (by decide) rfl hb26 rfl ?_
     refine run_nil ?_
     exact w_goto true (.k (.k (.k (.k .nil)))) ⟨(hS.keep [] rfl).up (by omega), hM⟩
    ·replace hM := ifF hM hb26
     refine o_guardY (j := 8) (e := (!r25)) (want := false) rfl hb26 ?_
     refine o_move (v := .i r4.2) (by decide) rfl ?_
     refine o_guardY (j := 8) (e := (!r25)) (want := false) rfl hb26 ?_
     refine o_int (v := .b (r4.2 == 0)) (by decide) rfl rfl rfl ?_
     refine o_guardY (j := 8) (e := (!r25)) (want := false) rfl hb26 ?_
     refine o_move (v := .i r5.2) (by decide) rfl ?_
     refine o_guardY (j := 8) (e := (!r25)) (want := false) rfl hb26 ?_
     refine o_int (v := .b (r5.2 == 3)) (by decide) rfl rfl rfl ?_
     refine o_guardY (j := 8) (e := (!r25)) (want := false) rfl hb26 ?_
     refine o_neB (m := (r4.2 == 0)) (n := (r5.2 == 3)) (by decide) rfl rfl ty_bool4 ?_
     refine o_pickF (v := .b (!((r4.2 == 0) == (r5.2 == 3)))) (e := (!r25)) (by decide) rfl hb26 rfl ?_
     refine run_nil ?_
     exact w_goto (!((r4.2 == 0) == (r5.2 == 3))) (.k (.k (.k (.k .nil)))) ⟨(hS.keep [] rfl).up (by omega), hM⟩
end Go.Proofs.Ytneghcnkcfblmaa
