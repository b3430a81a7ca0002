/-
  The code returns what the functions say (printed by gen.py).
  Conditions: none.
-/
import Derived.Test.YtneghcnkcfblmaaWkWiresNext2
import Derived.Test.YtneghcnkcfblmaaSh
set_option linter.all false
namespace Go.Proofs.Ytneghcnkcfblmaa
open Go Go.AM Go.Law
set_option linter.unusedVariables false
set_option maxRecDepth 4000
set_option maxHeartbeats 4000000
theorem W_law11_WiresNext {n : Nat} {a0 : Wire} {a1 : Ask_} {r : Bool} (hM : law11_WiresNext n a0 a1 = some r) : PureSat Try.prog 7 [.agg (Wire.cells a0), .agg [.i a1.Letter, .i a1.Number]] (.b r) := by
 refine pure_of_wp mixed Try.func7 rfl (by decide) Try.ntmps7 (by simp) ?pure fun H0 g hf => ?_
 case pure => exact .v _
 rw [frame0_of]
 change wpA _ _ _ _ (Fr.of [(0, .agg (Wire.cells a0)), (1, .agg [.i a1.Letter, .i a1.Number])]) H0 g
 have hS := St.start hf
 refine r_seq ?_
 refine r_region (n := 3) rfl ?_
 refine o_box (v := .agg (Wire.cells a0)) (cs := (Wire.cells a0)) hS (by decide) rfl rfl (by omega) fun H hS => ?_
 refine o_box (v := .agg [.i a1.Letter, .i a1.Number]) (cs := [.i a1.Letter, .i a1.Number]) hS (by decide) rfl rfl (by omega) fun H hS => ?_
 refine o_assign (v := .b false) (by decide) rfl ?_
 refine run_nil ?_
 refine w_iceE (L' := [(g + 1, .cells [.i a1.Letter, .i a1.Number])]) 1 2 hS rfl rfl rfl fun H hS => ?_
 refine w_iceE (L' := []) 0 3 hS rfl rfl rfl fun H hS => ?_
 refine w_next [(2, .ep (Wire.cells a0)), (3, .ep [.i a1.Letter, .i a1.Number])] (.k (.k .nil)) ?_
 refine r_seq ?_
 refine w_join (J := Bool) (fun j => [(2, .ep (Wire.cells a0)), (3, .ep [.i a1.Letter, .i a1.Number]), (25, .b j)]) (fun j H' g' => St (· < g) H0 [] H' g' ∧ law11_WiresNext_j1 n a0 a1 j = some r) ?_ ?_
 ·rintro v1 H g1 ⟨hS, hM⟩
  change wpA _ _ _ _ (Fr.of [(2, .ep (Wire.cells a0)), (3, .ep [.i a1.Letter, .i a1.Number]), (25, .b v1)]) _ _
  replace hS : St (· < g) H0 [] H g1 := hS
  replace hM : law11_WiresNext_j1 n a0 a1 v1 = some r := hM
  rcases Bool.eq_false_or_eq_true v1 with hb2 | hb2
  ·replace hM := ifT hM hb2
   refine w_condT (e := v1) rfl hb2 ?_
   refine r_seq ?_
   refine r_region (n := 2) rfl ?_
   obtain ⟨r3, hr3, hM⟩ := bindE hM
   refine o_call (bs := []) (by decide) rfl rfl ((W_law11_works hr3).le .nil) ?_
   refine o_assign (v := .b r3) (by decide) rfl ?_
   refine run_nil ?_
   refine w_next [(4, .b r3)] (.k .nil) ?_
   refine r_ret ?_
   refine r_then_ret ?_
   refine w_end (x := .b r3) (f := fun r => .b r) (.inr rfl) ?_ (.refl _) (Option.some.inj hM) hS
   exact (res_one (res_tmp (x := .b r3) rfl))
  ·replace hM := ifF hM hb2
   refine w_condF (e := v1) rfl hb2 ?_
   refine r_skip ?_
   refine w_next [(2, .ep (Wire.cells a0)), (3, .ep [.i a1.Letter, .i a1.Number])] (.k (.k .nil)) ?_
   refine r_seq ?_
   refine r_region (n := 9) rfl ?_
   refine o_loadE (v := .agg (Wire.cells a0)) (by decide) rfl (part_agg ty_agg24 (Nat.le_of_ble_eq_true rfl) rfl) ?_
   obtain ⟨r4, hr4, hM⟩ := bindE hM
   refine o_call (bs := [.agg (Wire.cells a0)]) (by decide) rfl rfl ((W_wires_Next hr4).le (.k .nil)) ?_
   refine o_move (v := .tup [.i r4.1, .i r4.2.1, .i r4.2.2]) (by decide) rfl ?_
   refine o_extract (v := .i r4.1) (by decide) rfl rfl ?_
   refine o_extract (v := .i r4.2.1) (by decide) rfl rfl ?_
   refine o_extract (v := .i r4.2.2) (by decide) rfl rfl ?_
   refine o_assign (v := .i r4.1) (by decide) rfl ?_
   refine o_assign (v := .i r4.2.1) (by decide) rfl ?_
   refine o_assign (v := .i r4.2.2) (by decide) rfl ?_
   refine run_nil ?_
   refine w_next [(2, .ep (Wire.cells a0)), (3, .ep [.i a1.Letter, .i a1.Number]), (5, .i r4.1), (6, .i r4.2.1), (7, .i r4.2.2)] (.k (.k (.k (.k (.k .nil))))) ?_
   refine r_seq ?_
   refine r_region (n := 7) rfl ?_
   refine o_loadE (v := .agg (Wire.cells a0)) (by decide) rfl (part_agg ty_agg24 (Nat.le_of_ble_eq_true rfl) rfl) ?_
   obtain ⟨r5, hr5, hM⟩ := bindE hM
   refine o_call (bs := [.agg (Wire.cells a0)]) (by decide) rfl rfl ((W_wires_Many hr5).le (.k .nil)) ?_
   refine o_move (v := .tup [.i r5.1, .i r5.2]) (by decide) rfl ?_
   refine o_extract (v := .i r5.1) (by decide) rfl rfl ?_
   refine o_extract (v := .i r5.2) (by decide) rfl rfl ?_
   refine o_assign (v := .i r5.1) (by decide) rfl ?_
   refine o_assign (v := .i r5.2) (by decide) rfl ?_
   refine run_nil ?_
   refine w_next [(2, .ep (Wire.cells a0)), (3, .ep [.i a1.Letter, .i a1.Number]), (5, .i r4.1), (6, .i r4.2.1), (7, .i r4.2.2), (8, .i r5.1), (9, .i r5.2)] (.k (.k (.k (.k (.k (.k (.k .nil))))))) ?_
   refine r_seq ?_
   refine r_region (n := 11) rfl ?_
   refine o_loadE (v := .agg (Wire.cells a0)) (by decide) rfl (part_agg ty_agg24 (Nat.le_of_ble_eq_true rfl) rfl) ?_
   refine o_fieldE (cs := [.i a1.Letter, .i a1.Number]) (by decide) ty_fo38_0 rfl ?_
   refine o_loadE (v := .i a1.Letter) (by decide) rfl (part_one ty_agg3 ty_sc3 rfl) ?_
   refine o_fieldE (cs := [.i a1.Letter, .i a1.Number]) (by decide) ty_fo38_1 rfl ?_
   refine o_loadE (v := .i a1.Number) (by decide) rfl (part_one ty_agg3 ty_sc3 rfl) ?_
   obtain ⟨r6, hr6, hM⟩ := bindE hM
   refine o_call (bs := [.agg (Wire.cells a0), .i a1.Letter, .i a1.Number]) (by decide) rfl rfl ((W_wires_Left hr6).le (.k (.k (.k .nil)))) ?_
   refine o_move (v := .tup [.i r6.1, .i r6.2]) (by decide) rfl ?_
   refine o_extract (v := .i r6.1) (by decide) rfl rfl ?_
   refine o_extract (v := .i r6.2) (by decide) rfl rfl ?_
   refine o_assign (v := .i r6.1) (by decide) rfl ?_
   refine o_assign (v := .i r6.2) (by decide) rfl ?_
   refine run_nil ?_
   refine w_next [(2, .ep (Wire.cells a0)), (3, .ep [.i a1.Letter, .i a1.Number]), (5, .i r4.1), (6, .i r4.2.1), (7, .i r4.2.2), (8, .i r5.1), (9, .i r5.2), (10, .i r6.1), (11, .i r6.2)] (.k (.k (.k (.k (.k (.k (.k (.k (.k .nil))))))))) ?_
   refine r_seq ?_
   refine w_join (J := Bool) (fun j => [(2, .ep (Wire.cells a0)), (3, .ep [.i a1.Letter, .i a1.Number]), (5, .i r4.1), (6, .i r4.2.1), (7, .i r4.2.2), (8, .i r5.1), (9, .i r5.2), (10, .i r6.1), (59, .b j)]) (fun j H' g' => St (· < g) H0 [] H' g' ∧ law11_WiresNext_j2 n a0 a1 r4 r5 r6 j = some r) ?_ ?_
   ·rintro v7 H g2 ⟨hS, hM⟩
    change wpA _ _ _ _ (Fr.of [(2, .ep (Wire.cells a0)), (3, .ep [.i a1.Letter, .i a1.Number]), (5, .i r4.1), (6, .i r4.2.1), (7, .i r4.2.2), (8, .i r5.1), (9, .i r5.2), (10, .i r6.1), (59, .b v7)]) _ _
    replace hS : St (· < g) H0 [] H g2 := hS
    replace hM : law11_WiresNext_j2 n a0 a1 r4 r5 r6 v7 = some r := hM
    rcases Bool.eq_false_or_eq_true v7 with hb8 | hb8
    ·replace hM := ifT hM hb8
     refine w_condT (e := v7) rfl hb8 ?_
     refine r_seq ?_
     refine r_region (n := 1) rfl ?_
     refine o_assign (v := .b false) (by decide) rfl ?_
     refine run_nil ?_
     refine w_next [(4, .b false)] (.k .nil) ?_
     refine r_ret ?_
     refine r_then_ret ?_
     refine w_end (x := .b false) (f := fun r => .b r) (.inr rfl) ?_ (.refl _) (Option.some.inj hM) hS
     exact (res_one (res_tmp (x := .b false) rfl))
    ·replace hM := ifF hM hb8
     refine w_condF (e := v7) rfl hb8 ?_
     refine r_skip ?_
     refine w_next [(2, .ep (Wire.cells a0)), (3, .ep [.i a1.Letter, .i a1.Number]), (5, .i r4.1), (6, .i r4.2.1), (7, .i r4.2.2), (8, .i r5.1), (9, .i r5.2), (10, .i r6.1)] (.k (.k (.k (.k (.k (.k (.k (.k .nil)))))))) ?_
     refine r_seq ?_
     refine r_seq ?_
     refine r_region (n := 2) rfl ?_
     refine o_move (v := .i r5.2) (by decide) rfl ?_
     refine o_int (v := .b (r5.2 != 0)) (by decide) rfl rfl rfl ?_
     refine run_nil ?_
     refine w_next [(2, .ep (Wire.cells a0)), (3, .ep [.i a1.Letter, .i a1.Number]), (5, .i r4.1), (6, .i r4.2.1), (7, .i r4.2.2), (8, .i r5.1), (10, .i r6.1), (61, .b (r5.2 != 0))] (.k (.k (.k (.k (.k (.k (.k (.k .nil)))))))) ?_
     rcases Bool.eq_false_or_eq_true (r5.2 != 0) with hb9 | hb9
     ·replace hM := ifT hM hb9
      refine w_condT (e := (r5.2 != 0)) rfl hb9 ?_
      refine w_join (J := Bool) (fun j => [(4, .b j)]) (fun j H' g' => St (· < g) H0 [] H' g' ∧ law11_WiresNext_j3 j = some r) ?_ ?_
      ·rintro v10 H g3 ⟨hS, hM⟩
       change wpA _ _ _ _ (Fr.of [(4, .b v10)]) _ _
       replace hS : St (· < g) H0 [] H g3 := hS
       replace hM : law11_WiresNext_j3 v10 = some r := hM
       refine r_ret ?_
       refine r_then_ret ?_
       refine w_end (x := .b v10) (f := fun r => .b r) (.inr rfl) ?_ (.refl _) (Option.some.inj hM) hS
       exact (res_one (res_tmp (x := .b v10) rfl))
      ·refine r_region (n := 6) rfl ?_
       refine o_move (v := .i r4.2.2) (by decide) rfl ?_
       refine o_int (v := .b (r4.2.2 == 3)) (by decide) rfl rfl rfl ?_
       refine o_move (v := .b (r4.2.2 == 3)) (by decide) rfl ?_
       rcases Bool.eq_false_or_eq_true (r4.2.2 == 3) with hb11 | hb11
       ·replace hM := ifT hM hb11
        refine o_guardY (j := 2) (e := (r4.2.2 == 3)) (want := true) rfl hb11 ?_
        obtain ⟨r12, hr12, hM⟩ := bindE hM
        refine o_call (bs := []) (by decide) rfl rfl ((W_law11_works hr12).le .nil) ?_
        refine o_pickT (v := .b r12) (e := (r4.2.2 == 3)) (by decide) rfl hb11 rfl ?_
        refine o_assign (v := .b r12) (by decide) rfl ?_
        refine run_nil ?_
        exact w_goto r12 (.k .nil) ⟨(hS.keep [] rfl).up (by omega), hM⟩
       ·replace hM := ifF hM hb11
        refine o_guardN (j := 2) (e := (r4.2.2 == 3)) (want := true) (by decide) rfl hb11 ?_
        refine o_pickF (v := .b false) (e := (r4.2.2 == 3)) (by decide) rfl hb11 rfl ?_
        refine o_assign (v := .b false) (by decide) rfl ?_
        refine run_nil ?_
        exact w_goto false (.k .nil) ⟨(hS.keep [] rfl).up (by omega), hM⟩
     ·replace hM := ifF hM hb9
      refine w_condF (e := (r5.2 != 0)) rfl hb9 ?_
      refine r_skip ?_
      refine w_next [(2, .ep (Wire.cells a0)), (3, .ep [.i a1.Letter, .i a1.Number]), (5, .i r4.1), (6, .i r4.2.1), (7, .i r4.2.2), (8, .i r5.1), (10, .i r6.1)] (.k (.k (.k (.k (.k (.k (.k .nil))))))) ?_
      refine r_seq ?_
      refine r_seq ?_
      refine r_region (n := 2) rfl ?_
      refine o_move (v := .i r4.2.2) (by decide) rfl ?_
      refine o_int (v := .b (r4.2.2 != 0)) (by decide) rfl rfl rfl ?_
      refine run_nil ?_
      refine w_next [(2, .ep (Wire.cells a0)), (3, .ep [.i a1.Letter, .i a1.Number]), (5, .i r4.1), (6, .i r4.2.1), (8, .i r5.1), (10, .i r6.1), (68, .b (r4.2.2 != 0))] (.k (.k (.k (.k (.k (.k (.k .nil))))))) ?_
      rcases Bool.eq_false_or_eq_true (r4.2.2 != 0) with hb13 | hb13
      ·replace hM := ifT hM hb13
       refine w_condT (e := (r4.2.2 != 0)) rfl hb13 ?_
       refine w_join (J := Bool) (fun j => [(4, .b j)]) (fun j H' g' => St (· < g) H0 [] H' g' ∧ law11_WiresNext_j4 j = some r) ?_ ?_
       ·rintro v14 H g4 ⟨hS, hM⟩
        change wpA _ _ _ _ (Fr.of [(4, .b v14)]) _ _
        replace hS : St (· < g) H0 [] H g4 := hS
        replace hM : law11_WiresNext_j4 v14 = some r := hM
        refine r_ret ?_
        refine r_then_ret ?_
        refine w_end (x := .b v14) (f := fun r => .b r) (.inr rfl) ?_ (.refl _) (Option.some.inj hM) hS
        exact (res_one (res_tmp (x := .b v14) rfl))
       ·refine r_region (n := 7) rfl ?_
        refine o_move (v := .i r6.1) (by decide) rfl ?_
        refine o_move (v := .i r5.1) (by decide) rfl ?_
        refine o_int (v := .b (r6.1 == r5.1)) (by decide) rfl rfl rfl ?_
        refine o_move (v := .b (r6.1 == r5.1)) (by decide) rfl ?_
        rcases Bool.eq_false_or_eq_true (r6.1 == r5.1) with hb15 | hb15
        ·replace hM := ifT hM hb15
         refine o_guardY (j := 3) (e := (r6.1 == r5.1)) (want := true) rfl hb15 ?_
         obtain ⟨r16, hr16, hM⟩ := bindE hM
         refine o_call (bs := []) (by decide) rfl rfl ((W_law11_works hr16).le .nil) ?_
         refine o_pickT (v := .b r16) (e := (r6.1 == r5.1)) (by decide) rfl hb15 rfl ?_
         refine o_assign (v := .b r16) (by decide) rfl ?_
         refine run_nil ?_
         exact w_goto r16 (.k .nil) ⟨(hS.keep [] rfl).up (by omega), hM⟩
        ·replace hM := ifF hM hb15
         refine o_guardN (j := 3) (e := (r6.1 == r5.1)) (want := true) (by decide) rfl hb15 ?_
         refine o_pickF (v := .b false) (e := (r6.1 == r5.1)) (by decide) rfl hb15 rfl ?_
         refine o_assign (v := .b false) (by decide) rfl ?_
         refine run_nil ?_
         exact w_goto false (.k .nil) ⟨(hS.keep [] rfl).up (by omega), hM⟩
      ·replace hM := ifF hM hb13
       refine w_condF (e := (r4.2.2 != 0)) rfl hb13 ?_
       refine r_skip ?_
       refine w_next [(2, .ep (Wire.cells a0)), (3, .ep [.i a1.Letter, .i a1.Number]), (5, .i r4.1), (6, .i r4.2.1), (8, .i r5.1), (10, .i r6.1)] (.k (.k (.k (.k (.k (.k .nil)))))) ?_
       refine r_seq ?_
       refine r_seq ?_
       refine r_region (n := 5) rfl ?_
       refine o_loadE (v := .agg (Wire.cells a0)) (by decide) rfl (part_agg ty_agg24 (Nat.le_of_ble_eq_true rfl) rfl) ?_
       refine o_move (v := .i r4.1) (by decide) rfl ?_
       refine o_move (v := .i r4.2.1) (by decide) rfl ?_
       obtain ⟨r17, hr17, hM⟩ := bindE hM
       refine o_call (bs := [.agg (Wire.cells a0), .i r4.1, .i r4.2.1]) (by decide) rfl rfl ((W_ref11_IsButton hr17).le (.k (.k (.k .nil)))) ?_
       refine o_not (e := r17) (by decide) rfl ?_
       refine run_nil ?_
       refine w_next [(2, .ep (Wire.cells a0)), (3, .ep [.i a1.Letter, .i a1.Number]), (5, .i r4.1), (6, .i r4.2.1), (8, .i r5.1), (10, .i r6.1), (79, .b (!r17))] (.k (.k (.k (.k (.k (.k (.k .nil))))))) ?_
       rcases Bool.eq_false_or_eq_true (!r17) with hb18 | hb18
       ·replace hM := ifT hM hb18
        refine w_condT (e := (!r17)) rfl hb18 ?_
        refine r_seq ?_
        refine r_region (n := 1) rfl ?_
        refine o_assign (v := .b false) (by decide) rfl ?_
        refine run_nil ?_
        refine w_next [(4, .b false)] (.k .nil) ?_
        refine r_ret ?_
        refine r_then_ret ?_
        refine w_end (x := .b false) (f := fun r => .b r) (.inr rfl) ?_ (.refl _) (Option.some.inj hM) hS
        exact (res_one (res_tmp (x := .b false) rfl))
       ·replace hM := ifF hM hb18
        refine w_condF (e := (!r17)) rfl hb18 ?_
        refine r_skip ?_
        refine w_next [(2, .ep (Wire.cells a0)), (3, .ep [.i a1.Letter, .i a1.Number]), (5, .i r4.1), (6, .i r4.2.1), (8, .i r5.1), (10, .i r6.1)] (.k (.k (.k (.k (.k (.k .nil)))))) ?_
        refine r_seq ?_
        refine r_region (n := 9) rfl ?_
        refine o_loadE (v := .agg (Wire.cells a0)) (by decide) rfl (part_agg ty_agg24 (Nat.le_of_ble_eq_true rfl) rfl) ?_
        refine o_move (v := .i r4.1) (by decide) rfl ?_
        refine o_move (v := .i r4.2.1) (by decide) rfl ?_
        obtain ⟨r19, hr19, hM⟩ := bindE hM
        refine o_call (bs := [.agg (Wire.cells a0), .i r4.1, .i r4.2.1]) (by decide) rfl rfl ((W_wires_Left hr19).le (.k (.k (.k .nil)))) ?_
        refine o_move (v := .tup [.i r19.1, .i r19.2]) (by decide) rfl ?_
        refine o_extract (v := .i r19.1) (by decide) rfl rfl ?_
        refine o_extract (v := .i r19.2) (by decide) rfl rfl ?_
        refine o_assign (v := .i r19.1) (by decide) rfl ?_
        refine o_assign (v := .i r19.2) (by decide) rfl ?_
        refine run_nil ?_
        refine w_next [(3, .ep [.i a1.Letter, .i a1.Number]), (5, .i r4.1), (6, .i r4.2.1), (8, .i r5.1), (10, .i r6.1), (12, .i r19.1), (13, .i r19.2)] (.k (.k (.k (.k (.k (.k (.k .nil))))))) ?_
        refine w_join (J := Bool) (fun j => [(4, .b j)]) (fun j H' g' => St (· < g) H0 [] H' g' ∧ law11_WiresNext_j5 j = some r) ?_ ?_
        ·rintro v20 H g5 ⟨hS, hM⟩
         change wpA _ _ _ _ (Fr.of [(4, .b v20)]) _ _
         replace hS : St (· < g) H0 [] H g5 := hS
         replace hM : law11_WiresNext_j5 v20 = some r := hM
         refine r_ret ?_
         refine w_end (x := .b v20) (f := fun r => .b r) (.inr rfl) ?_ (.refl _) (Option.some.inj hM) hS
         exact (res_one (res_tmp (x := .b v20) rfl))
        ·refine r_region (n := 43) rfl ?_
         refine o_move (v := .i r19.2) (by decide) rfl ?_
         refine o_int (v := .b (r19.2 == 0)) (by decide) rfl rfl rfl ?_
         refine o_move (v := .b (r19.2 == 0)) (by decide) rfl ?_
         rcases Bool.eq_false_or_eq_true (r19.2 == 0) with hb21 | hb21
         ·replace hM := ifT hM hb21
          refine o_guardY (j := 2) (e := (r19.2 == 0)) (want := true) rfl hb21 ?_
          refine o_move (v := .i r19.1) (by decide) rfl ?_
          refine o_guardY (j := 2) (e := (r19.2 == 0)) (want := true) rfl hb21 ?_
          refine o_int (v := .b (decide (r19.1 ≥ 1))) (by decide) rfl rfl rfl ?_
          refine o_pickT (v := .b (decide (r19.1 ≥ 1))) (e := (r19.2 == 0)) (by decide) rfl hb21 rfl ?_
          refine o_move (v := .b (decide (r19.1 ≥ 1))) (by decide) rfl ?_
          rcases Bool.eq_false_or_eq_true (decide (r19.1 ≥ 1)) with hb22 | hb22
          ·replace hM := ifT hM hb22
           refine o_guardY (j := 6) (e := (decide (r19.1 ≥ 1))) (want := true) rfl hb22 ?_
           refine o_move (v := .i r19.1) (by decide) rfl ?_
           refine o_guardY (j := 6) (e := (decide (r19.1 ≥ 1))) (want := true) rfl hb22 ?_
           refine o_move (v := .i r5.1) (by decide) rfl ?_
           refine o_guardY (j := 6) (e := (decide (r19.1 ≥ 1))) (want := true) rfl hb22 ?_
           refine o_int (v := .b (decide (r19.1 < r5.1))) (by decide) rfl rfl rfl ?_
           refine o_pickT (v := .b (decide (r19.1 < r5.1))) (e := (decide (r19.1 ≥ 1))) (by decide) rfl hb22 rfl ?_
           refine o_move (v := .b (decide (r19.1 < r5.1))) (by decide) rfl ?_
           rcases Bool.eq_false_or_eq_true (decide (r19.1 < r5.1)) with hb23 | hb23
           ·replace hM := ifT hM hb23
            refine o_guardY (j := 11) (e := (decide (r19.1 < r5.1))) (want := true) rfl hb23 ?_
            refine o_move (v := .i r19.1) (by decide) rfl ?_
            refine o_guardY (j := 11) (e := (decide (r19.1 < r5.1))) (want := true) rfl hb23 ?_
            refine o_move (v := .i r6.1) (by decide) rfl ?_
            refine o_guardY (j := 11) (e := (decide (r19.1 < r5.1))) (want := true) rfl hb23 ?_
            refine o_int (v := .b (decide (r19.1 ≤ r6.1))) (by decide) rfl rfl rfl ?_
            refine o_pickT (v := .b (decide (r19.1 ≤ r6.1))) (e := (decide (r19.1 < r5.1))) (by decide) rfl hb23 rfl ?_
            refine o_move (v := .b (decide (r19.1 ≤ r6.1))) (by decide) rfl ?_
            rcases Bool.eq_false_or_eq_true (decide (r19.1 ≤ r6.1)) with hb24 | hb24
            ·replace hM := ifT hM hb24
             refine o_guardY (j := 16) (e := (decide (r19.1 ≤ r6.1))) (want := true) rfl hb24 ?_
             refine o_move (v := .i r19.1) (by decide) rfl ?_
             refine o_guardY (j := 16) (e := (decide (r19.1 ≤ r6.1))) (want := true) rfl hb24 ?_
             refine o_move (v := .i r6.1) (by decide) rfl ?_
             refine o_guardY (j := 16) (e := (decide (r19.1 ≤ r6.1))) (want := true) rfl hb24 ?_
             refine o_int (v := .b (decide (r19.1 < r6.1))) (by decide) rfl rfl rfl ?_
             refine o_guardY (j := 16) (e := (decide (r19.1 ≤ r6.1))) (want := true) rfl hb24 ?_
             refine o_move (v := .b (decide (r19.1 < r6.1))) (by decide) rfl ?_
             rcases Bool.eq_false_or_eq_true (decide (r19.1 < r6.1)) with hb25 | hb25
             ·replace hM := ifT hM hb25
              refine o_guardN (j := 20) (e := (decide (r19.1 < r6.1))) (want := false) (by decide) rfl hb25 ?_
              refine o_guardN (j := 20) (e := (decide (r19.1 < r6.1))) (want := false) (by decide) rfl hb25 ?_
              refine o_guardN (j := 20) (e := (decide (r19.1 < r6.1))) (want := false) (by decide) rfl hb25 ?_
              refine o_guardN (j := 20) (e := (decide (r19.1 < r6.1))) (want := false) (by decide) rfl hb25 ?_
              refine o_guardY (j := 16) (e := (decide (r19.1 ≤ r6.1))) (want := true) rfl hb24 ?_
              refine o_pickT (v := .b true) (e := (decide (r19.1 < r6.1))) (by decide) rfl hb25 rfl ?_
              refine o_guardY (j := 16) (e := (decide (r19.1 ≤ r6.1))) (want := true) rfl hb24 ?_
              refine o_move (v := .b true) (by decide) rfl ?_
              refine o_guardN (j := 26) (e := true) (want := false) (by decide) rfl rfl ?_
              refine o_guardN (j := 26) (e := true) (want := false) (by decide) rfl rfl ?_
              refine o_guardN (j := 26) (e := true) (want := false) (by decide) rfl rfl ?_
              refine o_guardN (j := 26) (e := true) (want := false) (by decide) rfl rfl ?_
              refine o_guardN (j := 26) (e := true) (want := false) (by decide) rfl rfl ?_
              refine o_guardU (j := 31) (by decide) rfl ?_
              refine o_guardU (j := 31) (by decide) rfl ?_
              refine o_guardU (j := 31) (by decide) rfl ?_
              refine o_guardU (j := 31) (by decide) rfl ?_
              refine o_guardN (j := 26) (e := true) (want := false) (by decide) rfl rfl ?_
              refine o_guardY (j := 16) (e := (decide (r19.1 ≤ r6.1))) (want := true) rfl hb24 ?_
              refine o_pickT (v := .b true) (e := true) (by decide) rfl rfl rfl ?_
              refine o_pickT (v := .b true) (e := (decide (r19.1 ≤ r6.1))) (by decide) rfl hb24 rfl ?_
              refine o_move (v := .b true) (by decide) rfl ?_
              refine o_guardY (j := 39) (e := true) (want := true) rfl rfl ?_
              obtain ⟨r26, hr26, hM⟩ := bindE hM
              refine o_call (bs := []) (by decide) rfl rfl ((W_law11_works hr26).le .nil) ?_
              refine o_pickT (v := .b r26) (e := true) (by decide) rfl rfl rfl ?_
              refine o_assign (v := .b r26) (by decide) rfl ?_
              refine run_nil ?_
              exact w_goto r26 (.k .nil) ⟨(hS.keep [] rfl).up (by omega), hM⟩
             ·replace hM := ifF hM hb25
              refine o_guardY (j := 20) (e := (decide (r19.1 < r6.1))) (want := false) rfl hb25 ?_
              refine o_fieldE (cs := [.i a1.Letter, .i a1.Number]) (by decide) ty_fo38_0 rfl ?_
              refine o_guardY (j := 20) (e := (decide (r19.1 < r6.1))) (want := false) rfl hb25 ?_
              refine o_loadE (v := .i a1.Letter) (by decide) rfl (part_one ty_agg3 ty_sc3 rfl) ?_
              refine o_guardY (j := 20) (e := (decide (r19.1 < r6.1))) (want := false) rfl hb25 ?_
              refine o_move (v := .i r4.1) (by decide) rfl ?_
              refine o_guardY (j := 20) (e := (decide (r19.1 < r6.1))) (want := false) rfl hb25 ?_
              refine o_int (v := .b (decide (a1.Letter > r4.1))) (by decide) rfl rfl rfl ?_
              refine o_guardY (j := 16) (e := (decide (r19.1 ≤ r6.1))) (want := true) rfl hb24 ?_
              refine o_pickF (v := .b (decide (a1.Letter > r4.1))) (e := (decide (r19.1 < r6.1))) (by decide) rfl hb25 rfl ?_
              refine o_guardY (j := 16) (e := (decide (r19.1 ≤ r6.1))) (want := true) rfl hb24 ?_
              refine o_move (v := .b (decide (a1.Letter > r4.1))) (by decide) rfl ?_
              rcases Bool.eq_false_or_eq_true (decide (a1.Letter > r4.1)) with hb27 | hb27
              ·replace hM := ifT hM hb27
               refine o_guardN (j := 26) (e := (decide (a1.Letter > r4.1))) (want := false) (by decide) rfl hb27 ?_
               refine o_guardN (j := 26) (e := (decide (a1.Letter > r4.1))) (want := false) (by decide) rfl hb27 ?_
               refine o_guardN (j := 26) (e := (decide (a1.Letter > r4.1))) (want := false) (by decide) rfl hb27 ?_
               refine o_guardN (j := 26) (e := (decide (a1.Letter > r4.1))) (want := false) (by decide) rfl hb27 ?_
               refine o_guardN (j := 26) (e := (decide (a1.Letter > r4.1))) (want := false) (by decide) rfl hb27 ?_
               refine o_guardU (j := 31) (by decide) rfl ?_
               refine o_guardU (j := 31) (by decide) rfl ?_
               refine o_guardU (j := 31) (by decide) rfl ?_
               refine o_guardU (j := 31) (by decide) rfl ?_
               refine o_guardN (j := 26) (e := (decide (a1.Letter > r4.1))) (want := false) (by decide) rfl hb27 ?_
               refine o_guardY (j := 16) (e := (decide (r19.1 ≤ r6.1))) (want := true) rfl hb24 ?_
               refine o_pickT (v := .b true) (e := (decide (a1.Letter > r4.1))) (by decide) rfl hb27 rfl ?_
               refine o_pickT (v := .b true) (e := (decide (r19.1 ≤ r6.1))) (by decide) rfl hb24 rfl ?_
               refine o_move (v := .b true) (by decide) rfl ?_
               refine o_guardY (j := 39) (e := true) (want := true) rfl rfl ?_
               obtain ⟨r28, hr28, hM⟩ := bindE hM
               refine o_call (bs := []) (by decide) rfl rfl ((W_law11_works hr28).le .nil) ?_
               refine o_pickT (v := .b r28) (e := true) (by decide) rfl rfl rfl ?_
               refine o_assign (v := .b r28) (by decide) rfl ?_
               refine run_nil ?_
               exact w_goto r28 (.k .nil) ⟨(hS.keep [] rfl).up (by omega), hM⟩
              ·replace hM := ifF hM hb27
               refine o_guardY (j := 26) (e := (decide (a1.Letter > r4.1))) (want := false) rfl hb27 ?_
               refine o_fieldE (cs := [.i a1.Letter, .i a1.Number]) (by decide) ty_fo38_0 rfl ?_
               refine o_guardY (j := 26) (e := (decide (a1.Letter > r4.1))) (want := false) rfl hb27 ?_
               refine o_loadE (v := .i a1.Letter) (by decide) rfl (part_one ty_agg3 ty_sc3 rfl) ?_
               refine o_guardY (j := 26) (e := (decide (a1.Letter > r4.1))) (want := false) rfl hb27 ?_
               refine o_move (v := .i r4.1) (by decide) rfl ?_
               refine o_guardY (j := 26) (e := (decide (a1.Letter > r4.1))) (want := false) rfl hb27 ?_
               refine o_int (v := .b (a1.Letter == r4.1)) (by decide) rfl rfl rfl ?_
               refine o_guardY (j := 26) (e := (decide (a1.Letter > r4.1))) (want := false) rfl hb27 ?_
               refine o_move (v := .b (a1.Letter == r4.1)) (by decide) rfl ?_
               rcases Bool.eq_false_or_eq_true (a1.Letter == r4.1) with hb29 | hb29
               ·replace hM := ifT hM hb29
                refine o_guardY (j := 31) (e := (a1.Letter == r4.1)) (want := true) rfl hb29 ?_
                refine o_fieldE (cs := [.i a1.Letter, .i a1.Number]) (by decide) ty_fo38_1 rfl ?_
                refine o_guardY (j := 31) (e := (a1.Letter == r4.1)) (want := true) rfl hb29 ?_
                refine o_loadE (v := .i a1.Number) (by decide) rfl (part_one ty_agg3 ty_sc3 rfl) ?_
                refine o_guardY (j := 31) (e := (a1.Letter == r4.1)) (want := true) rfl hb29 ?_
                refine o_move (v := .i r4.2.1) (by decide) rfl ?_
                refine o_guardY (j := 31) (e := (a1.Letter == r4.1)) (want := true) rfl hb29 ?_
                refine o_int (v := .b (decide (a1.Number ≥ r4.2.1))) (by decide) rfl rfl rfl ?_
                refine o_guardY (j := 26) (e := (decide (a1.Letter > r4.1))) (want := false) rfl hb27 ?_
                refine o_pickT (v := .b (decide (a1.Number ≥ r4.2.1))) (e := (a1.Letter == r4.1)) (by decide) rfl hb29 rfl ?_
                refine o_guardY (j := 16) (e := (decide (r19.1 ≤ r6.1))) (want := true) rfl hb24 ?_
                refine o_pickF (v := .b (decide (a1.Number ≥ r4.2.1))) (e := (decide (a1.Letter > r4.1))) (by decide) rfl hb27 rfl ?_
                refine o_pickT (v := .b (decide (a1.Number ≥ r4.2.1))) (e := (decide (r19.1 ≤ r6.1))) (by decide) rfl hb24 rfl ?_
                refine o_move (v := .b (decide (a1.Number ≥ r4.2.1))) (by decide) rfl ?_
                rcases Bool.eq_false_or_eq_true (decide (a1.Number ≥ r4.2.1)) with hb30 | hb30
                ·replace hM := ifT hM hb30
                 refine o_guardY (j := 39) (e := (decide (a1.Number ≥ r4.2.1))) (want := true) rfl hb30 ?_
                 obtain ⟨r31, hr31, hM⟩ := bindE hM
                 refine o_call (bs := []) (by decide) rfl rfl ((W_law11_works hr31).le .nil) ?_
                 refine o_pickT (v := .b r31) (e := (decide (a1.Number ≥ r4.2.1))) (by decide) rfl hb30 rfl ?_
                 refine o_assign (v := .b r31) (by decide) rfl ?_
                 refine run_nil ?_
                 exact w_goto r31 (.k .nil) ⟨(hS.keep [] rfl).up (by omega), hM⟩
                ·replace hM := ifF hM hb30
                 refine o_guardN (j := 39) (e := (decide (a1.Number ≥ r4.2.1))) (want := true) (by decide) rfl hb30 ?_
                 refine o_pickF (v := .b false) (e := (decide (a1.Number ≥ r4.2.1))) (by decide) rfl hb30 rfl ?_
                 refine o_assign (v := .b false) (by decide) rfl ?_
                 refine run_nil ?_
                 exact w_goto false (.k .nil) ⟨(hS.keep [] rfl).up (by omega), hM⟩
               ·replace hM := ifF hM hb29
                refine o_guardN (j := 31) (e := (a1.Letter == r4.1)) (want := true) (by decide) rfl hb29 ?_
                refine o_guardN (j := 31) (e := (a1.Letter == r4.1)) (want := true) (by decide) rfl hb29 ?_
                refine o_guardN (j := 31) (e := (a1.Letter == r4.1)) (want := true) (by decide) rfl hb29 ?_
                refine o_guardN (j := 31) (e := (a1.Letter == r4.1)) (want := true) (by decide) rfl hb29 ?_
                refine o_guardY (j := 26) (e := (decide (a1.Letter > r4.1))) (want := false) rfl hb27 ?_
                refine o_pickF (v := .b false) (e := (a1.Letter == r4.1)) (by decide) rfl hb29 rfl ?_
                refine o_guardY (j := 16) (e := (decide (r19.1 ≤ r6.1))) (want := true) rfl hb24 ?_
                refine o_pickF (v := .b false) (e := (decide (a1.Letter > r4.1))) (by decide) rfl hb27 rfl ?_
                refine o_pickT (v := .b false) (e := (decide (r19.1 ≤ r6.1))) (by decide) rfl hb24 rfl ?_
                refine o_move (v := .b false) (by decide) rfl ?_
                refine o_guardN (j := 39) (e := false) (want := true) (by decide) rfl rfl ?_
                refine o_pickF (v := .b false) (e := false) (by decide) rfl rfl rfl ?_
                refine o_assign (v := .b false) (by decide) rfl ?_
                refine run_nil ?_
                exact w_goto false (.k .nil) ⟨(hS.keep [] rfl).up (by omega), hM⟩
            ·replace hM := ifF hM hb24
             refine o_guardN (j := 16) (e := (decide (r19.1 ≤ r6.1))) (want := true) (by decide) rfl hb24 ?_
             refine o_guardN (j := 16) (e := (decide (r19.1 ≤ r6.1))) (want := true) (by decide) rfl hb24 ?_
             refine o_guardN (j := 16) (e := (decide (r19.1 ≤ r6.1))) (want := true) (by decide) rfl hb24 ?_
             refine o_guardN (j := 16) (e := (decide (r19.1 ≤ r6.1))) (want := true) (by decide) rfl hb24 ?_
             refine o_guardU (j := 20) (by decide) rfl ?_
             refine o_guardU (j := 20) (by decide) rfl ?_
             refine o_guardU (j := 20) (by decide) rfl ?_
             refine o_guardU (j := 20) (by decide) rfl ?_
             refine o_guardN (j := 16) (e := (decide (r19.1 ≤ r6.1))) (want := true) (by decide) rfl hb24 ?_
             refine o_guardN (j := 16) (e := (decide (r19.1 ≤ r6.1))) (want := true) (by decide) rfl hb24 ?_
             refine o_guardU (j := 26) (by decide) rfl ?_
             refine o_guardU (j := 26) (by decide) rfl ?_
             refine o_guardU (j := 26) (by decide) rfl ?_
             refine o_guardU (j := 26) (by decide) rfl ?_
             refine o_guardU (j := 26) (by decide) rfl ?_
             refine o_guardU (j := 31) (by decide) rfl ?_
             refine o_guardU (j := 31) (by decide) rfl ?_
             refine o_guardU (j := 31) (by decide) rfl ?_
             refine o_guardU (j := 31) (by decide) rfl ?_
             refine o_guardU (j := 26) (by decide) rfl ?_
             refine o_guardN (j := 16) (e := (decide (r19.1 ≤ r6.1))) (want := true) (by decide) rfl hb24 ?_
             refine o_pickF (v := .b false) (e := (decide (r19.1 ≤ r6.1))) (by decide) rfl hb24 rfl ?_
             refine o_move (v := .b false) (by decide) rfl ?_
             refine o_guardN (j := 39) (e := false) (want := true) (by decide) rfl rfl ?_
             refine o_pickF (v := .b false) (e := false) (by decide) rfl rfl rfl ?_
             refine o_assign (v := .b false) (by decide) rfl ?_
             refine run_nil ?_
             exact w_goto false (.k .nil) ⟨(hS.keep [] rfl).up (by omega), hM⟩
           ·replace hM := ifF hM hb23
            refine o_guardN (j := 11) (e := (decide (r19.1 < r5.1))) (want := true) (by decide) rfl hb23 ?_
            refine o_guardN (j := 11) (e := (decide (r19.1 < r5.1))) (want := true) (by decide) rfl hb23 ?_
            refine o_guardN (j := 11) (e := (decide (r19.1 < r5.1))) (want := true) (by decide) rfl hb23 ?_
            refine o_pickF (v := .b false) (e := (decide (r19.1 < r5.1))) (by decide) rfl hb23 rfl ?_
            refine o_move (v := .b false) (by decide) rfl ?_
            refine o_guardN (j := 16) (e := false) (want := true) (by decide) rfl rfl ?_
            refine o_guardN (j := 16) (e := false) (want := true) (by decide) rfl rfl ?_
            refine o_guardN (j := 16) (e := false) (want := true) (by decide) rfl rfl ?_
            refine o_guardN (j := 16) (e := false) (want := true) (by decide) rfl rfl ?_
            refine o_guardU (j := 20) (by decide) rfl ?_
            refine o_guardU (j := 20) (by decide) rfl ?_
            refine o_guardU (j := 20) (by decide) rfl ?_
            refine o_guardU (j := 20) (by decide) rfl ?_
            refine o_guardN (j := 16) (e := false) (want := true) (by decide) rfl rfl ?_
            refine o_guardN (j := 16) (e := false) (want := true) (by decide) rfl rfl ?_
            refine o_guardU (j := 26) (by decide) rfl ?_
            refine o_guardU (j := 26) (by decide) rfl ?_
            refine o_guardU (j := 26) (by decide) rfl ?_
            refine o_guardU (j := 26) (by decide) rfl ?_
            refine o_guardU (j := 26) (by decide) rfl ?_
            refine o_guardU (j := 31) (by decide) rfl ?_
            refine o_guardU (j := 31) (by decide) rfl ?_
            refine o_guardU (j := 31) (by decide) rfl ?_
            refine o_guardU (j := 31) (by decide) rfl ?_
            refine o_guardU (j := 26) (by decide) rfl ?_
            refine o_guardN (j := 16) (e := false) (want := true) (by decide) rfl rfl ?_
            refine o_pickF (v := .b false) (e := false) (by decide) rfl rfl rfl ?_
            refine o_move (v := .b false) (by decide) rfl ?_
            refine o_guardN (j := 39) (e := false) (want := true) (by decide) rfl rfl ?_
            refine o_pickF (v := .b false) (e := false) (by decide) rfl rfl rfl ?_
            refine o_assign (v := .b false) (by decide) rfl ?_
            refine run_nil ?_
            exact w_goto false (.k .nil) ⟨(hS.keep [] rfl).up (by omega), hM⟩
          ·replace hM := ifF hM hb22
           refine o_guardN (j := 6) (e := (decide (r19.1 ≥ 1))) (want := true) (by decide) rfl hb22 ?_
           refine o_guardN (j := 6) (e := (decide (r19.1 ≥ 1))) (want := true) (by decide) rfl hb22 ?_
           refine o_guardN (j := 6) (e := (decide (r19.1 ≥ 1))) (want := true) (by decide) rfl hb22 ?_
           refine o_pickF (v := .b false) (e := (decide (r19.1 ≥ 1))) (by decide) rfl hb22 rfl ?_
           refine o_move (v := .b false) (by decide) rfl ?_
           refine o_guardN (j := 11) (e := false) (want := true) (by decide) rfl rfl ?_
           refine o_guardN (j := 11) (e := false) (want := true) (by decide) rfl rfl ?_
           refine o_guardN (j := 11) (e := false) (want := true) (by decide) rfl rfl ?_
           refine o_pickF (v := .b false) (e := false) (by decide) rfl rfl rfl ?_
           refine o_move (v := .b false) (by decide) rfl ?_
           refine o_guardN (j := 16) (e := false) (want := true) (by decide) rfl rfl ?_
           refine o_guardN (j := 16) (e := false) (want := true) (by decide) rfl rfl ?_
           refine o_guardN (j := 16) (e := false) (want := true) (by decide) rfl rfl ?_
           refine o_guardN (j := 16) (e := false) (want := true) (by decide) rfl rfl ?_
           refine o_guardU (j := 20) (by decide) rfl ?_
           refine o_guardU (j := 20) (by decide) rfl ?_
           refine o_guardU (j := 20) (by decide) rfl ?_
           refine o_guardU (j := 20) (by decide) rfl ?_
           refine o_guardN (j := 16) (e := false) (want := true) (by decide) rfl rfl ?_
           refine o_guardN (j := 16) (e := false) (want := true) (by decide) rfl rfl ?_
           refine o_guardU (j := 26) (by decide) rfl ?_
           refine o_guardU (j := 26) (by decide) rfl ?_
           refine o_guardU (j := 26) (by decide) rfl ?_
           refine o_guardU (j := 26) (by decide) rfl ?_
           refine o_guardU (j := 26) (by decide) rfl ?_
           refine o_guardU (j := 31) (by decide) rfl ?_
           refine o_guardU (j := 31) (by decide) rfl ?_
           refine o_guardU (j := 31) (by decide) rfl ?_
           refine o_guardU (j := 31) (by decide) rfl ?_
           refine o_guardU (j := 26) (by decide) rfl ?_
           refine o_guardN (j := 16) (e := false) (want := true) (by decide) rfl rfl ?_
           refine o_pickF (v := .b false) (e := false) (by decide) rfl rfl rfl ?_
           refine o_move (v := .b false) (by decide) rfl ?_
           refine o_guardN (j := 39) (e := false) (want := true) (by decide) rfl rfl ?_
           refine o_pickF (v := .b false) (e := false) (by decide) rfl rfl rfl ?_
           refine o_assign (v := .b false) (by decide) rfl ?_
           refine run_nil ?_
           exact w_goto false (.k .nil) ⟨(hS.keep [] rfl).up (by omega), hM⟩
         ·replace hM := ifF hM hb21
          refine o_guardN (j := 2) (e := (r19.2 == 0)) (want := true) (by decide) rfl hb21 ?_
          refine o_guardN (j := 2) (e := (r19.2 == 0)) (want := true) (by decide) rfl hb21 ?_
          refine o_pickF (v := .b false) (e := (r19.2 == 0)) (by decide) rfl hb21 rfl ?_
          refine o_move (v := .b false) (by decide) rfl ?_
          refine o_guardN (j := 6) (e := false) (want := true) (by decide) rfl rfl ?_
          refine o_guardN (j := 6) (e := false) (want := true) (by decide) rfl rfl ?_
          refine o_guardN (j := 6) (e := false) (want := true) (by decide) rfl rfl ?_
          refine o_pickF (v := .b false) (e := false) (by decide) rfl rfl rfl ?_
          refine o_move (v := .b false) (by decide) rfl ?_
          refine o_guardN (j := 11) (e := false) (want := true) (by decide) rfl rfl ?_
          refine o_guardN (j := 11) (e := false) (want := true) (by decide) rfl rfl ?_
          refine o_guardN (j := 11) (e := false) (want := true) (by decide) rfl rfl ?_
          refine o_pickF (v := .b false) (e := false) (by decide) rfl rfl rfl ?_
          refine o_move (v := .b false) (by decide) rfl ?_
          refine o_guardN (j := 16) (e := false) (want := true) (by decide) rfl rfl ?_
          refine o_guardN (j := 16) (e := false) (want := true) (by decide) rfl rfl ?_
          refine o_guardN (j := 16) (e := false) (want := true) (by decide) rfl rfl ?_
          refine o_guardN (j := 16) (e := false) (want := true) (by decide) rfl rfl ?_
          refine o_guardU (j := 20) (by decide) rfl ?_
          refine o_guardU (j := 20) (by decide) rfl ?_
          refine o_guardU (j := 20) (by decide) rfl ?_
          refine o_guardU (j := 20) (by decide) rfl ?_
          refine o_guardN (j := 16) (e := false) (want := true) (by decide) rfl rfl ?_
          refine o_guardN (j := 16) (e := false) (want := true) (by decide) rfl rfl ?_
          refine o_guardU (j := 26) (by decide) rfl ?_
          refine o_guardU (j := 26) (by decide) rfl ?_
          refine o_guardU (j := 26) (by decide) rfl ?_
          refine o_guardU (j := 26) (by decide) rfl ?_
          refine o_guardU (j := 26) (by decide) rfl ?_
          refine o_guardU (j := 31) (by decide) rfl ?_
          refine o_guardU (j := 31) (by decide) rfl ?_
          refine o_guardU (j := 31) (by decide) rfl ?_
          refine o_guardU (j := 31) (by decide) rfl ?_
          refine o_guardU (j := 26) (by decide) rfl ?_
          refine o_guardN (j := 16) (e := false) (want := true) (by decide) rfl rfl ?_
          refine o_pickF (v := .b false) (e := false) (by decide) rfl rfl rfl ?_
          refine o_move (v := .b false) (by decide) rfl ?_
          refine o_guardN (j := 39) (e := false) (want := true) (by decide) rfl rfl ?_
          refine o_pickF (v := .b false) (e := false) (by decide) rfl rfl rfl ?_
          refine o_assign (v := .b false) (by decide) rfl ?_
          refine run_nil ?_
          exact w_goto false (.k .nil) ⟨(hS.keep [] rfl).up (by omega), hM⟩
   ·refine r_region (n := 13) rfl ?_
    refine o_move (v := .i r4.2.2) (by decide) rfl ?_
    obtain ⟨r32, hr32, hM⟩ := bindE hM
    refine o_call (bs := [.i r4.2.2]) (by decide) rfl rfl ((W_law11_isKnown hr32).le (.k .nil)) ?_
    refine o_not (e := r32) (by decide) rfl ?_
    refine o_move (v := .b (!r32)) (by decide) rfl ?_
    rcases Bool.eq_false_or_eq_true (!r32) with hb33 | hb33
    ·replace hM := ifT hM hb33
     refine o_guardN (j := 3) (e := (!r32)) (want := false) (by decide) rfl hb33 ?_
     refine o_guardN (j := 3) (e := (!r32)) (want := false) (by decide) rfl hb33 ?_
     refine o_guardN (j := 3) (e := (!r32)) (want := false) (by decide) rfl hb33 ?_
     refine o_pickT (v := .b true) (e := (!r32)) (by decide) rfl hb33 rfl ?_
     refine o_move (v := .b true) (by decide) rfl ?_
     refine o_guardN (j := 8) (e := true) (want := false) (by decide) rfl rfl ?_
     refine o_guardN (j := 8) (e := true) (want := false) (by decide) rfl rfl ?_
     refine o_guardN (j := 8) (e := true) (want := false) (by decide) rfl rfl ?_
     refine o_pickT (v := .b true) (e := true) (by decide) rfl rfl rfl ?_
     refine run_nil ?_
     exact w_goto true (.k (.k (.k (.k (.k (.k (.k (.k (.k .nil))))))))) ⟨(hS.keep [] rfl).up (by omega), hM⟩
    ·replace hM := ifF hM hb33
     refine o_guardY (j := 3) (e := (!r32)) (want := false) rfl hb33 ?_
     refine o_move (v := .i r5.2) (by decide) rfl ?_
     refine o_guardY (j := 3) (e := (!r32)) (want := false) rfl hb33 ?_
     obtain ⟨r34, hr34, hM⟩ := bindE hM
     refine o_call (bs := [.i r5.2]) (by decide) rfl rfl ((W_law11_isKnown hr34).le (.k .nil)) ?_
     refine o_guardY (j := 3) (e := (!r32)) (want := false) rfl hb33 ?_
     refine o_not (e := r34) (by decide) rfl ?_
     refine o_pickF (v := .b (!r34)) (e := (!r32)) (by decide) rfl hb33 rfl ?_
     refine o_move (v := .b (!r34)) (by decide) rfl ?_
     rcases Bool.eq_false_or_eq_true (!r34) with hb35 | hb35
     ·replace hM := ifT hM hb35
      refine o_guardN (j := 8) (e := (!r34)) (want := false) (by decide) rfl hb35 ?_
      refine o_guardN (j := 8) (e := (!r34)) (want := false) (by decide) rfl hb35 ?_
      refine o_guardN (j := 8) (e := (!r34)) (want := false) (by decide) rfl hb35 ?_
      refine o_pickT (v := .b true) (e := (!r34)) (by decide) rfl hb35 rfl ?_
      refine run_nil ?_
      exact w_goto true (.k (.k (.k (.k (.k (.k (.k (.k (.k .nil))))))))) ⟨(hS.keep [] rfl).up (by omega), hM⟩
     ·replace hM := ifF hM hb35
      refine o_guardY (j := 8) (e := (!r34)) (want := false) rfl hb35 ?_
      refine o_move (v := .i r6.2) (by decide) rfl ?_
      refine o_guardY (j := 8) (e := (!r34)) (want := false) rfl hb35 ?_
      refine o_move (v := .i r5.2) (by decide) rfl ?_
      refine o_guardY (j := 8) (e := (!r34)) (want := false) rfl hb35 ?_
      refine o_int (v := .b (r6.2 != r5.2)) (by decide) rfl rfl rfl ?_
      refine o_pickF (v := .b (r6.2 != r5.2)) (e := (!r34)) (by decide) rfl hb35 rfl ?_
      refine run_nil ?_
      exact w_goto (r6.2 != r5.2) (.k (.k (.k (.k (.k (.k (.k (.k (.k .nil))))))))) ⟨(hS.keep [] rfl).up (by omega), hM⟩
 ·refine r_region (n := 12) rfl ?_
  refine o_loadE (v := .agg (Wire.cells a0)) (by decide) rfl (part_agg ty_agg24 (Nat.le_of_ble_eq_true rfl) rfl) ?_
  obtain ⟨r36, hr36, hM⟩ := bindE hM
  refine o_call (bs := [.agg (Wire.cells a0)]) (by decide) rfl rfl ((W_law11_ready hr36).le (.k .nil)) ?_
  refine o_not (e := r36) (by decide) rfl ?_
  refine o_move (v := .b (!r36)) (by decide) rfl ?_
  rcases Bool.eq_false_or_eq_true (!r36) with hb37 | hb37
  ·replace hM := ifT hM hb37
   refine o_guardN (j := 3) (e := (!r36)) (want := false) (by decide) rfl hb37 ?_
   refine o_guardN (j := 3) (e := (!r36)) (want := false) (by decide) rfl hb37 ?_
   refine o_guardN (j := 3) (e := (!r36)) (want := false) (by decide) rfl hb37 ?_
   refine o_guardN (j := 3) (e := (!r36)) (want := false) (by decide) rfl hb37 ?_
   refine o_guardN (j := 3) (e := (!r36)) (want := false) (by decide) rfl hb37 ?_
   refine o_guardN (j := 3) (e := (!r36)) (want := false) (by decide) rfl hb37 ?_
   refine o_guardN (j := 3) (e := (!r36)) (want := false) (by decide) rfl hb37 ?_
   refine o_pickT (v := .b true) (e := (!r36)) (by decide) rfl hb37 rfl ?_
   refine run_nil ?_
   exact w_goto true (.k (.k (.k .nil))) ⟨(hS.keep [] rfl).up (by omega), hM⟩
  ·replace hM := ifF hM hb37
   refine o_guardY (j := 3) (e := (!r36)) (want := false) rfl hb37 ?_
   refine o_loadE (v := .agg (Wire.cells a0)) (by decide) rfl (part_agg ty_agg24 (Nat.le_of_ble_eq_true rfl) rfl) ?_
   refine o_guardY (j := 3) (e := (!r36)) (want := false) rfl hb37 ?_
   refine o_fieldE (cs := [.i a1.Letter, .i a1.Number]) (by decide) ty_fo38_0 rfl ?_
   refine o_guardY (j := 3) (e := (!r36)) (want := false) rfl hb37 ?_
   refine o_loadE (v := .i a1.Letter) (by decide) rfl (part_one ty_agg3 ty_sc3 rfl) ?_
   refine o_guardY (j := 3) (e := (!r36)) (want := false) rfl hb37 ?_
   refine o_fieldE (cs := [.i a1.Letter, .i a1.Number]) (by decide) ty_fo38_1 rfl ?_
   refine o_guardY (j := 3) (e := (!r36)) (want := false) rfl hb37 ?_
   refine o_loadE (v := .i a1.Number) (by decide) rfl (part_one ty_agg3 ty_sc3 rfl) ?_
   refine o_guardY (j := 3) (e := (!r36)) (want := false) rfl hb37 ?_
   obtain ⟨r38, hr38, hM⟩ := bindE hM
   refine o_call (bs := [.agg (Wire.cells a0), .i a1.Letter, .i a1.Number]) (by decide) rfl rfl ((W_ref11_IsButton hr38).le (.k (.k (.k .nil)))) ?_
   refine o_guardY (j := 3) (e := (!r36)) (want := false) rfl hb37 ?_
   refine o_not (e := r38) (by decide) rfl ?_
   refine o_pickF (v := .b (!r38)) (e := (!r36)) (by decide) rfl hb37 rfl ?_
   refine run_nil ?_
   exact w_goto (!r38) (.k (.k (.k .nil))) ⟨(hS.keep [] rfl).up (by omega), hM⟩
end Go.Proofs.Ytneghcnkcfblmaa
