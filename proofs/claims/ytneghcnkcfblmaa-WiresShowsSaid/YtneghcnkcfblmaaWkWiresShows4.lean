/-
  The code returns what the functions say (printed by gen.py).
  Conditions: none.
-/
import Derived.Test.YtneghcnkcfblmaaWkWiresShows3
import Derived.Test.YtneghcnkcfblmaaSh
set_option linter.all false
namespace Go.Proofs.Ytneghcnkcfblmaa
open Go Go.AM Go.Law
set_option linter.unusedVariables false
set_option maxRecDepth 4000
set_option maxHeartbeats 4000000
theorem W_law11_WiresShows {n : Nat} {a0 : Wire} {a1 : Ask_} {r : Bool} (hM : law11_WiresShows n a0 a1 = some r) : PureSat Try.prog 5 [.agg (Wire.cells a0), .agg [.i a1.Letter, .i a1.Number]] (.b r) := by
 refine pure_of_wp mixed Try.func5 rfl (by decide) Try.ntmps5 (by simp) ?pure fun H0 g hf => ?_
 case pure => exact .v _
 rw [frame0_of]
 change wpA _ _ _ _ (Fr.of [(0, .agg (Wire.cells a0)), (1, .agg [.i a1.Letter, .i a1.Number])]) H0 g
 have hS := St.start hf
 refine r_seq ?_
 refine r_region (n := 3) rfl ?_
 refine o_box (v := .agg (Wire.cells a0)) (cs := (Wire.cells a0)) hS (by decide) rfl rfl (by omega) fun H hS => ?_
 refine o_box (v := .agg [.i a1.Letter, .i a1.Number]) (cs := [.i a1.Letter, .i a1.Number]) hS (by decide) rfl rfl (by omega) fun H hS => ?_
 refine o_assign (v := .b false) (by decide) rfl ?_
 refine run_nil ?_
 refine w_iceE (L' := [(g + 1, .cells [.i a1.Letter, .i a1.Number])]) 1 2 hS rfl rfl rfl fun H hS => ?_
 refine w_iceE (L' := []) 0 3 hS rfl rfl rfl fun H hS => ?_
 refine w_next [(2, .ep (Wire.cells a0)), (3, .ep [.i a1.Letter, .i a1.Number])] (.k (.k .nil)) ?_
 refine r_seq ?_
 refine r_seq ?_
 refine r_region (n := 2) rfl ?_
 refine o_loadE (v := .agg (Wire.cells a0)) (by decide) rfl (part_agg ty_agg24 (Nat.le_of_ble_eq_true rfl) rfl) ?_
 obtain ⟨r1, hr1, hM⟩ := bindE hM
 refine o_call (bs := [.agg (Wire.cells a0)]) (by decide) rfl rfl ((W_law11_Far hr1).le (.k .nil)) ?_
 refine run_nil ?_
 refine w_next [(2, .ep (Wire.cells a0)), (3, .ep [.i a1.Letter, .i a1.Number]), (21, .b r1)] (.k (.k (.k .nil))) ?_
 rcases Bool.eq_false_or_eq_true r1 with hb2 | hb2
 ·replace hM := ifT hM hb2
  refine w_condT (e := r1) rfl hb2 ?_
  refine r_seq ?_
  refine r_region (n := 2) rfl ?_
  obtain ⟨r3, hr3, hM⟩ := bindE hM
  refine o_call (bs := []) (by decide) rfl rfl ((W_law11_works hr3).le .nil) ?_
  refine o_assign (v := .b r3) (by decide) rfl ?_
  refine run_nil ?_
  refine w_next [(4, .b r3)] (.k .nil) ?_
  refine r_ret ?_
  refine r_then_ret ?_
  refine w_end (x := .b r3) (f := fun r => .b r) (.inr rfl) ?_ (.refl _) (Option.some.inj hM) hS
  exact (res_one (res_tmp (x := .b r3) rfl))
 ·replace hM := ifF hM hb2
  refine w_condF (e := r1) rfl hb2 ?_
  refine r_skip ?_
  refine w_next [(2, .ep (Wire.cells a0)), (3, .ep [.i a1.Letter, .i a1.Number])] (.k (.k .nil)) ?_
  refine r_seq ?_
  refine r_region (n := 4) rfl ?_
  refine o_loadE (v := .agg (Wire.cells a0)) (by decide) rfl (part_agg ty_agg24 (Nat.le_of_ble_eq_true rfl) rfl) ?_
  obtain ⟨r4, hr4, hM⟩ := bindE hM
  refine o_call (bs := [.agg (Wire.cells a0)]) (by decide) rfl rfl ((W_ref11_Copy hr4).le (.k .nil)) ?_
  refine o_alloc hS (by decide) ty_zero24 (by omega) fun H hS => ?_
  refine o_store (v := .agg (Wire.cells r4)) (ns := (Wire.cells r4)) (L' := [(g + 3 + 2 + 2, .cells (Wire.cells r4))]) 0 hS rfl rfl .no rfl rfl ty_var24 (Nat.le_of_ble_eq_true rfl) rfl fun H hS => ?_
  refine run_nil ?_
  refine w_iceE (L' := []) 0 5 hS rfl rfl rfl fun H hS => ?_
  refine w_next [(2, .ep (Wire.cells a0)), (3, .ep [.i a1.Letter, .i a1.Number]), (5, .ep (Wire.cells r4))] (.k (.k (.k .nil))) ?_
  refine r_seq ?_
  refine r_region (n := 11) rfl ?_
  refine o_loadE (v := .agg (Wire.cells r4)) (by decide) rfl (part_agg ty_agg24 (Nat.le_of_ble_eq_true rfl) rfl) ?_
  refine o_fieldE (cs := [.i a1.Letter, .i a1.Number]) (by decide) ty_fo38_0 rfl ?_
  refine o_loadE (v := .i a1.Letter) (by decide) rfl (part_one ty_agg3 ty_sc3 rfl) ?_
  refine o_fieldE (cs := [.i a1.Letter, .i a1.Number]) (by decide) ty_fo38_1 rfl ?_
  refine o_loadE (v := .i a1.Number) (by decide) rfl (part_one ty_agg3 ty_sc3 rfl) ?_
  obtain ⟨r5, hr5, hM⟩ := bindE hM
  refine o_call (bs := [.agg (Wire.cells r4), .i a1.Letter, .i a1.Number]) (by decide) rfl rfl ((W_wires_Shows hr5).le (.k (.k (.k .nil)))) ?_
  refine o_move (v := .tup [.sl .no 1 (r5.1.map cI), .i r5.2]) (by decide) rfl ?_
  refine o_extract (v := .sl .no 1 (r5.1.map cI)) (by decide) rfl rfl ?_
  refine o_extract (v := .i r5.2) (by decide) rfl rfl ?_
  refine o_assign (v := .sl .no 1 (r5.1.map cI)) (by decide) rfl ?_
  refine o_assign (v := .i r5.2) (by decide) rfl ?_
  refine run_nil ?_
  refine w_next [(2, .ep (Wire.cells a0)), (3, .ep [.i a1.Letter, .i a1.Number]), (5, .ep (Wire.cells r4)), (6, .sl .no 1 (r5.1.map cI)), (7, .i r5.2)] (.k (.k (.k (.k (.k .nil))))) ?_
  refine r_seq ?_
  refine r_region (n := 11) rfl ?_
  refine o_loadE (v := .agg (Wire.cells a0)) (by decide) rfl (part_agg ty_agg24 (Nat.le_of_ble_eq_true rfl) rfl) ?_
  refine o_fieldE (cs := [.i a1.Letter, .i a1.Number]) (by decide) ty_fo38_0 rfl ?_
  refine o_loadE (v := .i a1.Letter) (by decide) rfl (part_one ty_agg3 ty_sc3 rfl) ?_
  refine o_fieldE (cs := [.i a1.Letter, .i a1.Number]) (by decide) ty_fo38_1 rfl ?_
  refine o_loadE (v := .i a1.Number) (by decide) rfl (part_one ty_agg3 ty_sc3 rfl) ?_
  obtain ⟨r6, hr6, hM⟩ := bindE hM
  refine o_call (bs := [.agg (Wire.cells a0), .i a1.Letter, .i a1.Number]) (by decide) rfl rfl ((W_ref11_Shows hr6).le (.k (.k (.k .nil)))) ?_
  refine o_move (v := .tup [.sl .no 1 (r6.1.map cI), .i r6.2]) (by decide) rfl ?_
  refine o_extract (v := .sl .no 1 (r6.1.map cI)) (by decide) rfl rfl ?_
  refine o_extract (v := .i r6.2) (by decide) rfl rfl ?_
  refine o_assign (v := .sl .no 1 (r6.1.map cI)) (by decide) rfl ?_
  refine o_assign (v := .i r6.2) (by decide) rfl ?_
  refine run_nil ?_
  refine w_next [(2, .ep (Wire.cells a0)), (3, .ep [.i a1.Letter, .i a1.Number]), (5, .ep (Wire.cells r4)), (6, .sl .no 1 (r5.1.map cI)), (7, .i r5.2), (8, .sl .no 1 (r6.1.map cI)), (9, .i r6.2)] (.k (.k (.k (.k (.k (.k (.k .nil))))))) ?_
  refine r_seq ?_
  refine r_region (n := 11) rfl ?_
  refine o_loadE (v := .agg (Wire.cells r4)) (by decide) rfl (part_agg ty_agg24 (Nat.le_of_ble_eq_true rfl) rfl) ?_
  refine o_fieldE (cs := [.i a1.Letter, .i a1.Number]) (by decide) ty_fo38_0 rfl ?_
  refine o_loadE (v := .i a1.Letter) (by decide) rfl (part_one ty_agg3 ty_sc3 rfl) ?_
  refine o_fieldE (cs := [.i a1.Letter, .i a1.Number]) (by decide) ty_fo38_1 rfl ?_
  refine o_loadE (v := .i a1.Number) (by decide) rfl (part_one ty_agg3 ty_sc3 rfl) ?_
  obtain ⟨r7, hr7, hM⟩ := bindE hM
  refine o_call (bs := [.agg (Wire.cells r4), .i a1.Letter, .i a1.Number]) (by decide) rfl rfl ((W_wires_Left hr7).le (.k (.k (.k .nil)))) ?_
  refine o_move (v := .tup [.i r7.1, .i r7.2]) (by decide) rfl ?_
  refine o_extract (v := .i r7.1) (by decide) rfl rfl ?_
  refine o_extract (v := .i r7.2) (by decide) rfl rfl ?_
  refine o_assign (v := .i r7.1) (by decide) rfl ?_
  refine o_assign (v := .i r7.2) (by decide) rfl ?_
  refine run_nil ?_
  refine w_next [(2, .ep (Wire.cells a0)), (3, .ep [.i a1.Letter, .i a1.Number]), (5, .ep (Wire.cells r4)), (6, .sl .no 1 (r5.1.map cI)), (7, .i r5.2), (8, .sl .no 1 (r6.1.map cI)), (9, .i r6.2), (10, .i r7.1), (11, .i r7.2)] (.k (.k (.k (.k (.k (.k (.k (.k (.k .nil))))))))) ?_
  refine r_seq ?_
  refine r_region (n := 11) rfl ?_
  refine o_loadE (v := .agg (Wire.cells a0)) (by decide) rfl (part_agg ty_agg24 (Nat.le_of_ble_eq_true rfl) rfl) ?_
  refine o_fieldE (cs := [.i a1.Letter, .i a1.Number]) (by decide) ty_fo38_0 rfl ?_
  refine o_loadE (v := .i a1.Letter) (by decide) rfl (part_one ty_agg3 ty_sc3 rfl) ?_
  refine o_fieldE (cs := [.i a1.Letter, .i a1.Number]) (by decide) ty_fo38_1 rfl ?_
  refine o_loadE (v := .i a1.Number) (by decide) rfl (part_one ty_agg3 ty_sc3 rfl) ?_
  obtain ⟨r8, hr8, hM⟩ := bindE hM
  refine o_call (bs := [.agg (Wire.cells a0), .i a1.Letter, .i a1.Number]) (by decide) rfl rfl ((W_ref11_Left hr8).le (.k (.k (.k .nil)))) ?_
  refine o_move (v := .tup [.i r8.1, .i r8.2]) (by decide) rfl ?_
  refine o_extract (v := .i r8.1) (by decide) rfl rfl ?_
  refine o_extract (v := .i r8.2) (by decide) rfl rfl ?_
  refine o_assign (v := .i r8.1) (by decide) rfl ?_
  refine o_assign (v := .i r8.2) (by decide) rfl ?_
  refine run_nil ?_
  refine w_next [(2, .ep (Wire.cells a0)), (5, .ep (Wire.cells r4)), (6, .sl .no 1 (r5.1.map cI)), (7, .i r5.2), (8, .sl .no 1 (r6.1.map cI)), (9, .i r6.2), (10, .i r7.1), (11, .i r7.2), (12, .i r8.1), (13, .i r8.2)] (.k (.k (.k (.k (.k (.k (.k (.k (.k (.k .nil)))))))))) ?_
  refine r_seq ?_
  refine r_region (n := 9) rfl ?_
  refine o_loadE (v := .agg (Wire.cells r4)) (by decide) rfl (part_agg ty_agg24 (Nat.le_of_ble_eq_true rfl) rfl) ?_
  obtain ⟨r9, hr9, hM⟩ := bindE hM
  refine o_call (bs := [.agg (Wire.cells r4)]) (by decide) rfl rfl ((W_wires_Next hr9).le (.k .nil)) ?_
  refine o_move (v := .tup [.i r9.1, .i r9.2.1, .i r9.2.2]) (by decide) rfl ?_
  refine o_extract (v := .i r9.1) (by decide) rfl rfl ?_
  refine o_extract (v := .i r9.2.1) (by decide) rfl rfl ?_
  refine o_extract (v := .i r9.2.2) (by decide) rfl rfl ?_
  refine o_assign (v := .i r9.1) (by decide) rfl ?_
  refine o_assign (v := .i r9.2.1) (by decide) rfl ?_
  refine o_assign (v := .i r9.2.2) (by decide) rfl ?_
  refine run_nil ?_
  refine w_next [(2, .ep (Wire.cells a0)), (5, .ep (Wire.cells r4)), (6, .sl .no 1 (r5.1.map cI)), (7, .i r5.2), (8, .sl .no 1 (r6.1.map cI)), (9, .i r6.2), (10, .i r7.1), (11, .i r7.2), (12, .i r8.1), (13, .i r8.2), (14, .i r9.1), (15, .i r9.2.1), (16, .i r9.2.2)] (.k (.k (.k (.k (.k (.k (.k (.k (.k (.k (.k (.k (.k .nil))))))))))))) ?_
  refine r_seq ?_
  refine r_region (n := 9) rfl ?_
  refine o_loadE (v := .agg (Wire.cells a0)) (by decide) rfl (part_agg ty_agg24 (Nat.le_of_ble_eq_true rfl) rfl) ?_
  obtain ⟨r10, hr10, hM⟩ := bindE hM
  refine o_call (bs := [.agg (Wire.cells a0)]) (by decide) rfl rfl ((W_ref11_Next hr10).le (.k .nil)) ?_
  refine o_move (v := .tup [.i r10.1, .i r10.2.1, .i r10.2.2]) (by decide) rfl ?_
  refine o_extract (v := .i r10.1) (by decide) rfl rfl ?_
  refine o_extract (v := .i r10.2.1) (by decide) rfl rfl ?_
  refine o_extract (v := .i r10.2.2) (by decide) rfl rfl ?_
  refine o_assign (v := .i r10.1) (by decide) rfl ?_
  refine o_assign (v := .i r10.2.1) (by decide) rfl ?_
  refine o_assign (v := .i r10.2.2) (by decide) rfl ?_
  refine run_nil ?_
  refine w_next [(2, .ep (Wire.cells a0)), (5, .ep (Wire.cells r4)), (6, .sl .no 1 (r5.1.map cI)), (7, .i r5.2), (8, .sl .no 1 (r6.1.map cI)), (9, .i r6.2), (10, .i r7.1), (11, .i r7.2), (12, .i r8.1), (13, .i r8.2), (14, .i r9.1), (15, .i r9.2.1), (16, .i r9.2.2), (17, .i r10.1), (18, .i r10.2.1), (19, .i r10.2.2)] (.k (.k (.k (.k (.k (.k (.k (.k (.k (.k (.k (.k (.k (.k (.k (.k .nil)))))))))))))))) ?_
  refine w_join (J := Bool) (fun j => [(4, .b j)]) (fun j H' g' => St (· < g) H0 [] H' g' ∧ law11_WiresShows_j1 j = some r) ?_ ?_
  ·rintro v11 H g1 ⟨hS, hM⟩
   change wpA _ _ _ _ (Fr.of [(4, .b v11)]) _ _
   replace hS : St (· < g) H0 [] H g1 := hS
   replace hM : law11_WiresShows_j1 v11 = some r := hM
   refine r_ret ?_
   refine w_end (x := .b v11) (f := fun r => .b r) (.inr rfl) ?_ (.refl _) (Option.some.inj hM) hS
   exact (res_one (res_tmp (x := .b v11) rfl))
  ·refine r_region (n := 42) rfl ?_
   refine o_move (v := .sl .no 1 (r5.1.map cI)) (by decide) rfl ?_
   refine o_move (v := .sl .no 1 (r6.1.map cI)) (by decide) rfl ?_
   obtain ⟨r12, hr12, hM⟩ := bindE hM
   refine o_call (bs := [.sl .no 1 (r5.1.map cI), .sl .no 1 (r6.1.map cI)]) (by decide) rfl rfl ((W_ref01_SameInts hr12).le (.k (.k .nil))) ?_
   refine o_move (v := .b r12) (by decide) rfl ?_
   rcases Bool.eq_false_or_eq_true r12 with hb13 | hb13
   ·replace hM := ifT hM hb13
    refine o_guardY (j := 3) (e := r12) (want := true) rfl hb13 ?_
    refine o_move (v := .i r5.2) (by decide) rfl ?_
    refine o_guardY (j := 3) (e := r12) (want := true) rfl hb13 ?_
    refine o_move (v := .i r6.2) (by decide) rfl ?_
    refine o_guardY (j := 3) (e := r12) (want := true) rfl hb13 ?_
    refine o_int (v := .b (r5.2 == r6.2)) (by decide) rfl rfl rfl ?_
    refine o_pickT (v := .b (r5.2 == r6.2)) (e := r12) (by decide) rfl hb13 rfl ?_
    refine o_move (v := .b (r5.2 == r6.2)) (by decide) rfl ?_
    rcases Bool.eq_false_or_eq_true (r5.2 == r6.2) with hb14 | hb14
    ·replace hM := ifT hM hb14
     refine o_guardY (j := 8) (e := (r5.2 == r6.2)) (want := true) rfl hb14 ?_
     refine o_move (v := .i r7.1) (by decide) rfl ?_
     refine o_guardY (j := 8) (e := (r5.2 == r6.2)) (want := true) rfl hb14 ?_
     refine o_move (v := .i r8.1) (by decide) rfl ?_
     refine o_guardY (j := 8) (e := (r5.2 == r6.2)) (want := true) rfl hb14 ?_
     refine o_int (v := .b (r7.1 == r8.1)) (by decide) rfl rfl rfl ?_
     refine o_pickT (v := .b (r7.1 == r8.1)) (e := (r5.2 == r6.2)) (by decide) rfl hb14 rfl ?_
     refine o_move (v := .b (r7.1 == r8.1)) (by decide) rfl ?_
     rcases Bool.eq_false_or_eq_true (r7.1 == r8.1) with hb15 | hb15
     ·replace hM := ifT hM hb15
      refine o_guardY (j := 13) (e := (r7.1 == r8.1)) (want := true) rfl hb15 ?_
      refine o_move (v := .i r7.2) (by decide) rfl ?_
      refine o_guardY (j := 13) (e := (r7.1 == r8.1)) (want := true) rfl hb15 ?_
      refine o_move (v := .i r8.2) (by decide) rfl ?_
      refine o_guardY (j := 13) (e := (r7.1 == r8.1)) (want := true) rfl hb15 ?_
      refine o_int (v := .b (r7.2 == r8.2)) (by decide) rfl rfl rfl ?_
      refine o_pickT (v := .b (r7.2 == r8.2)) (e := (r7.1 == r8.1)) (by decide) rfl hb15 rfl ?_
      refine o_move (v := .b (r7.2 == r8.2)) (by decide) rfl ?_
      rcases Bool.eq_false_or_eq_true (r7.2 == r8.2) with hb16 | hb16
      ·replace hM := ifT hM hb16
       refine o_guardY (j := 18) (e := (r7.2 == r8.2)) (want := true) rfl hb16 ?_
       refine o_move (v := .i r9.1) (by decide) rfl ?_
       refine o_guardY (j := 18) (e := (r7.2 == r8.2)) (want := true) rfl hb16 ?_
       refine o_move (v := .i r10.1) (by decide) rfl ?_
       refine o_guardY (j := 18) (e := (r7.2 == r8.2)) (want := true) rfl hb16 ?_
       refine o_int (v := .b (r9.1 == r10.1)) (by decide) rfl rfl rfl ?_
       refine o_pickT (v := .b (r9.1 == r10.1)) (e := (r7.2 == r8.2)) (by decide) rfl hb16 rfl ?_
       refine o_move (v := .b (r9.1 == r10.1)) (by decide) rfl ?_
       rcases Bool.eq_false_or_eq_true (r9.1 == r10.1) with hb17 | hb17
       ·replace hM := ifT hM hb17
        refine o_guardY (j := 23) (e := (r9.1 == r10.1)) (want := true) rfl hb17 ?_
        refine o_move (v := .i r9.2.1) (by decide) rfl ?_
        refine o_guardY (j := 23) (e := (r9.1 == r10.1)) (want := true) rfl hb17 ?_
        refine o_move (v := .i r10.2.1) (by decide) rfl ?_
        refine o_guardY (j := 23) (e := (r9.1 == r10.1)) (want := true) rfl hb17 ?_
        refine o_int (v := .b (r9.2.1 == r10.2.1)) (by decide) rfl rfl rfl ?_
        refine o_pickT (v := .b (r9.2.1 == r10.2.1)) (e := (r9.1 == r10.1)) (by decide) rfl hb17 rfl ?_
        refine o_move (v := .b (r9.2.1 == r10.2.1)) (by decide) rfl ?_
        rcases Bool.eq_false_or_eq_true (r9.2.1 == r10.2.1) with hb18 | hb18
        ·replace hM := ifT hM hb18
         refine o_guardY (j := 28) (e := (r9.2.1 == r10.2.1)) (want := true) rfl hb18 ?_
         refine o_move (v := .i r9.2.2) (by decide) rfl ?_
         refine o_guardY (j := 28) (e := (r9.2.1 == r10.2.1)) (want := true) rfl hb18 ?_
         refine o_move (v := .i r10.2.2) (by decide) rfl ?_
         refine o_guardY (j := 28) (e := (r9.2.1 == r10.2.1)) (want := true) rfl hb18 ?_
         refine o_int (v := .b (r9.2.2 == r10.2.2)) (by decide) rfl rfl rfl ?_
         refine o_pickT (v := .b (r9.2.2 == r10.2.2)) (e := (r9.2.1 == r10.2.1)) (by decide) rfl hb18 rfl ?_
         refine o_move (v := .b (r9.2.2 == r10.2.2)) (by decide) rfl ?_
         rcases Bool.eq_false_or_eq_true (r9.2.2 == r10.2.2) with hb19 | hb19
         ·replace hM := ifT hM hb19
          refine o_guardY (j := 33) (e := (r9.2.2 == r10.2.2)) (want := true) rfl hb19 ?_
          refine o_loadE (v := .agg (Wire.cells r4)) (by decide) rfl (part_agg ty_agg24 (Nat.le_of_ble_eq_true rfl) rfl) ?_
          refine o_guardY (j := 33) (e := (r9.2.2 == r10.2.2)) (want := true) rfl hb19 ?_
          refine o_loadE (v := .agg (Wire.cells a0)) (by decide) rfl (part_agg ty_agg24 (Nat.le_of_ble_eq_true rfl) rfl) ?_
          refine o_guardY (j := 33) (e := (r9.2.2 == r10.2.2)) (want := true) rfl hb19 ?_
          obtain ⟨r20, hr20, hM⟩ := bindE hM
          refine o_call (bs := [.agg (Wire.cells r4), .agg (Wire.cells a0)]) (by decide) rfl rfl ((W_law11_same hr20).le (.k (.k .nil))) ?_
          refine o_pickT (v := .b r20) (e := (r9.2.2 == r10.2.2)) (by decide) rfl hb19 rfl ?_
          refine o_move (v := .b r20) (by decide) rfl ?_
          rcases Bool.eq_false_or_eq_true r20 with hb21 | hb21
          ·replace hM := ifT hM hb21
           refine o_guardY (j := 38) (e := r20) (want := true) rfl hb21 ?_
           obtain ⟨r22, hr22, hM⟩ := bindE hM
           refine o_call (bs := []) (by decide) rfl rfl ((W_law11_works hr22).le .nil) ?_
           refine o_pickT (v := .b r22) (e := r20) (by decide) rfl hb21 rfl ?_
           refine o_assign (v := .b r22) (by decide) rfl ?_
           refine run_nil ?_
           exact w_goto r22 (.k .nil) ⟨(hS.keep [] rfl).up (by omega), hM⟩
          ·replace hM := ifF hM hb21
           refine o_guardN (j := 38) (e := r20) (want := true) (by decide) rfl hb21 ?_
           refine o_pickF (v := .b false) (e := r20) (by decide) rfl hb21 rfl ?_
           refine o_assign (v := .b false) (by decide) rfl ?_
           refine run_nil ?_
           exact w_goto false (.k .nil) ⟨(hS.keep [] rfl).up (by omega), hM⟩
         ·replace hM := ifF hM hb19
          refine o_guardN (j := 33) (e := (r9.2.2 == r10.2.2)) (want := true) (by decide) rfl hb19 ?_
          refine o_guardN (j := 33) (e := (r9.2.2 == r10.2.2)) (want := true) (by decide) rfl hb19 ?_
          refine o_guardN (j := 33) (e := (r9.2.2 == r10.2.2)) (want := true) (by decide) rfl hb19 ?_
          refine o_pickF (v := .b false) (e := (r9.2.2 == r10.2.2)) (by decide) rfl hb19 rfl ?_
          refine o_move (v := .b false) (by decide) rfl ?_
          refine o_guardN (j := 38) (e := false) (want := true) (by decide) rfl rfl ?_
          refine o_pickF (v := .b false) (e := false) (by decide) rfl rfl rfl ?_
          refine o_assign (v := .b false) (by decide) rfl ?_
          refine run_nil ?_
          exact w_goto false (.k .nil) ⟨(hS.keep [] rfl).up (by omega), hM⟩
        ·replace hM := ifF hM hb18
         refine o_guardN (j := 28) (e := (r9.2.1 == r10.2.1)) (want := true) (by decide) rfl hb18 ?_
         refine o_guardN (j := 28) (e := (r9.2.1 == r10.2.1)) (want := true) (by decide) rfl hb18 ?_
         refine o_guardN (j := 28) (e := (r9.2.1 == r10.2.1)) (want := true) (by decide) rfl hb18 ?_
         refine o_pickF (v := .b false) (e := (r9.2.1 == r10.2.1)) (by decide) rfl hb18 rfl ?_
         refine o_move (v := .b false) (by decide) rfl ?_
         refine o_guardN (j := 33) (e := false) (want := true) (by decide) rfl rfl ?_
         refine o_guardN (j := 33) (e := false) (want := true) (by decide) rfl rfl ?_
         refine o_guardN (j := 33) (e := false) (want := true) (by decide) rfl rfl ?_
         refine o_pickF (v := .b false) (e := false) (by decide) rfl rfl rfl ?_
         refine o_move (v := .b false) (by decide) rfl ?_
         refine o_guardN (j := 38) (e := false) (want := true) (by decide) rfl rfl ?_
         refine o_pickF (v := .b false) (e := false) (by decide) rfl rfl rfl ?_
         refine o_assign (v := .b false) (by decide) rfl ?_
         refine run_nil ?_
         exact w_goto false (.k .nil) ⟨(hS.keep [] rfl).up (by omega), hM⟩
       ·replace hM := ifF hM hb17
        refine o_guardN (j := 23) (e := (r9.1 == r10.1)) (want := true) (by decide) rfl hb17 ?_
        refine o_guardN (j := 23) (e := (r9.1 == r10.1)) (want := true) (by decide) rfl hb17 ?_
        refine o_guardN (j := 23) (e := (r9.1 == r10.1)) (want := true) (by decide) rfl hb17 ?_
        refine o_pickF (v := .b false) (e := (r9.1 == r10.1)) (by decide) rfl hb17 rfl ?_
        refine o_move (v := .b false) (by decide) rfl ?_
        refine o_guardN (j := 28) (e := false) (want := true) (by decide) rfl rfl ?_
        refine o_guardN (j := 28) (e := false) (want := true) (by decide) rfl rfl ?_
        refine o_guardN (j := 28) (e := false) (want := true) (by decide) rfl rfl ?_
        refine o_pickF (v := .b false) (e := false) (by decide) rfl rfl rfl ?_
        refine o_move (v := .b false) (by decide) rfl ?_
        refine o_guardN (j := 33) (e := false) (want := true) (by decide) rfl rfl ?_
        refine o_guardN (j := 33) (e := false) (want := true) (by decide) rfl rfl ?_
        refine o_guardN (j := 33) (e := false) (want := true) (by decide) rfl rfl ?_
        refine o_pickF (v := .b false) (e := false) (by decide) rfl rfl rfl ?_
        refine o_move (v := .b false) (by decide) rfl ?_
        refine o_guardN (j := 38) (e := false) (want := true) (by decide) rfl rfl ?_
        refine o_pickF (v := .b false) (e := false) (by decide) rfl rfl rfl ?_
        refine o_assign (v := .b false) (by decide) rfl ?_
        refine run_nil ?_
        exact w_goto false (.k .nil) ⟨(hS.keep [] rfl).up (by omega), hM⟩
      ·replace hM := ifF hM hb16
       refine o_guardN (j := 18) (e := (r7.2 == r8.2)) (want := true) (by decide) rfl hb16 ?_
       refine o_guardN (j := 18) (e := (r7.2 == r8.2)) (want := true) (by decide) rfl hb16 ?_
       refine o_guardN (j := 18) (e := (r7.2 == r8.2)) (want := true) (by decide) rfl hb16 ?_
       refine o_pickF (v := .b false) (e := (r7.2 == r8.2)) (by decide) rfl hb16 rfl ?_
       refine o_move (v := .b false) (by decide) rfl ?_
       refine o_guardN (j := 23) (e := false) (want := true) (by decide) rfl rfl ?_
       refine o_guardN (j := 23) (e := false) (want := true) (by decide) rfl rfl ?_
       refine o_guardN (j := 23) (e := false) (want := true) (by decide) rfl rfl ?_
       refine o_pickF (v := .b false) (e := false) (by decide) rfl rfl rfl ?_
       refine o_move (v := .b false) (by decide) rfl ?_
       refine o_guardN (j := 28) (e := false) (want := true) (by decide) rfl rfl ?_
       refine o_guardN (j := 28) (e := false) (want := true) (by decide) rfl rfl ?_
       refine o_guardN (j := 28) (e := false) (want := true) (by decide) rfl rfl ?_
       refine o_pickF (v := .b false) (e := false) (by decide) rfl rfl rfl ?_
       refine o_move (v := .b false) (by decide) rfl ?_
       refine o_guardN (j := 33) (e := false) (want := true) (by decide) rfl rfl ?_
       refine o_guardN (j := 33) (e := false) (want := true) (by decide) rfl rfl ?_
       refine o_guardN (j := 33) (e := false) (want := true) (by decide) rfl rfl ?_
       refine o_pickF (v := .b false) (e := false) (by decide) rfl rfl rfl ?_
       refine o_move (v := .b false) (by decide) rfl ?_
       refine o_guardN (j := 38) (e := false) (want := true) (by decide) rfl rfl ?_
       refine o_pickF (v := .b false) (e := false) (by decide) rfl rfl rfl ?_
       refine o_assign (v := .b false) (by decide) rfl ?_
       refine run_nil ?_
       exact w_goto false (.k .nil) ⟨(hS.keep [] rfl).up (by omega), hM⟩
     ·replace hM := ifF hM hb15
      refine o_guardN (j := 13) (e := (r7.1 == r8.1)) (want := true) (by decide) rfl hb15 ?_
      refine o_guardN (j := 13) (e := (r7.1 == r8.1)) (want := true) (by decide) rfl hb15 ?_
      refine o_guardN (j := 13) (e := (r7.1 == r8.1)) (want := true) (by decide) rfl hb15 ?_
      refine o_pickF (v := .b false) (e := (r7.1 == r8.1)) (by decide) rfl hb15 rfl ?_
      refine o_move (v := .b false) (by decide) rfl ?_
      refine o_guardN (j := 18) (e := false) (want := true) (by decide) rfl rfl ?_
      refine o_guardN (j := 18) (e := false) (want := true) (by decide) rfl rfl ?_
      refine o_guardN (j := 18) (e := false) (want := true) (by decide) rfl rfl ?_
      refine o_pickF (v := .b false) (e := false) (by decide) rfl rfl rfl ?_
      refine o_move (v := .b false) (by decide) rfl ?_
      refine o_guardN (j := 23) (e := false) (want := true) (by decide) rfl rfl ?_
      refine o_guardN (j := 23) (e := false) (want := true) (by decide) rfl rfl ?_
      refine o_guardN (j := 23) (e := false) (want := true) (by decide) rfl rfl ?_
      refine o_pickF (v := .b false) (e := false) (by decide) rfl rfl rfl ?_
      refine o_move (v := .b false) (by decide) rfl ?_
      refine o_guardN (j := 28) (e := false) (want := true) (by decide) rfl rfl ?_
      refine o_guardN (j := 28) (e := false) (want := true) (by decide) rfl rfl ?_
      refine o_guardN (j := 28) (e := false) (want := true) (by decide) rfl rfl ?_
      refine o_pickF (v := .b false) (e := false) (by decide) rfl rfl rfl ?_
      refine o_move (v := .b false) (by decide) rfl ?_
      refine o_guardN (j := 33) (e := false) (want := true) (by decide) rfl rfl ?_
      refine o_guardN (j := 33) (e := false) (want := true) (by decide) rfl rfl ?_
      refine o_guardN (j := 33) (e := false) (want := true) (by decide) rfl rfl ?_
      refine o_pickF (v := .b false) (e := false) (by decide) rfl rfl rfl ?_
      refine o_move (v := .b false) (by decide) rfl ?_
      refine o_guardN (j := 38) (e := false) (want := true) (by decide) rfl rfl ?_
      refine o_pickF (v := .b false) (e := false) (by decide) rfl rfl rfl ?_
      refine o_assign (v := .b false) (by decide) rfl ?_
      refine run_nil ?_
      exact w_goto false (.k .nil) ⟨(hS.keep [] rfl).up (by omega), hM⟩
    ·replace hM := ifF hM hb14
     refine o_guardN (j := 8) (e := (r5.2 == r6.2)) (want := true) (by decide) rfl hb14 ?_
     refine o_guardN (j := 8) (e := (r5.2 == r6.2)) (want := true) (by decide) rfl hb14 ?_
     refine o_guardN (j := 8) (e := (r5.2 == r6.2)) (want := true) (by decide) rfl hb14 ?_
     refine o_pickF (v := .b false) (e := (r5.2 == r6.2)) (by decide) rfl hb14 rfl ?_
     refine o_move (v := .b false) (by decide) rfl ?_
     refine o_guardN (j := 13) (e := false) (want := true) (by decide) rfl rfl ?_
     refine o_guardN (j := 13) (e := false) (want := true) (by decide) rfl rfl ?_
     refine o_guardN (j := 13) (e := false) (want := true) (by decide) rfl rfl ?_
     refine o_pickF (v := .b false) (e := false) (by decide) rfl rfl rfl ?_
     refine o_move (v := .b false) (by decide) rfl ?_
     refine o_guardN (j := 18) (e := false) (want := true) (by decide) rfl rfl ?_
     refine o_guardN (j := 18) (e := false) (want := true) (by decide) rfl rfl ?_
     refine o_guardN (j := 18) (e := false) (want := true) (by decide) rfl rfl ?_
     refine o_pickF (v := .b false) (e := false) (by decide) rfl rfl rfl ?_
     refine o_move (v := .b false) (by decide) rfl ?_
     refine o_guardN (j := 23) (e := false) (want := true) (by decide) rfl rfl ?_
     refine o_guardN (j := 23) (e := false) (want := true) (by decide) rfl rfl ?_
     refine o_guardN (j := 23) (e := false) (want := true) (by decide) rfl rfl ?_
     refine o_pickF (v := .b false) (e := false) (by decide) rfl rfl rfl ?_
     refine o_move (v := .b false) (by decide) rfl ?_
     refine o_guardN (j := 28) (e := false) (want := true) (by decide) rfl rfl ?_
     refine o_guardN (j := 28) (e := false) (want := true) (by decide) rfl rfl ?_
     refine o_guardN (j := 28) (e := false) (want := true) (by decide) rfl rfl ?_
     refine o_pickF (v := .b false) (e := false) (by decide) rfl rfl rfl ?_
     refine o_move (v := .b false) (by decide) rfl ?_
     refine o_guardN (j := 33) (e := false) (want := true) (by decide) rfl rfl ?_
     refine o_guardN (j := 33) (e := false) (want := true) (by decide) rfl rfl ?_
     refine o_guardN (j := 33) (e := false) (want := true) (by decide) rfl rfl ?_
     refine o_pickF (v := .b false) (e := false) (by decide) rfl rfl rfl ?_
     refine o_move (v := .b false) (by decide) rfl ?_
     refine o_guardN (j := 38) (e := false) (want := true) (by decide) rfl rfl ?_
     refine o_pickF (v := .b false) (e := false) (by decide) rfl rfl rfl ?_
     refine o_assign (v := .b false) (by decide) rfl ?_
     refine run_nil ?_
     exact w_goto false (.k .nil) ⟨(hS.keep [] rfl).up (by omega), hM⟩
   ·replace hM := ifF hM hb13
    refine o_guardN (j := 3) (e := r12) (want := true) (by decide) rfl hb13 ?_
    refine o_guardN (j := 3) (e := r12) (want := true) (by decide) rfl hb13 ?_
    refine o_guardN (j := 3) (e := r12) (want := true) (by decide) rfl hb13 ?_
    refine o_pickF (v := .b false) (e := r12) (by decide) rfl hb13 rfl ?_
    refine o_move (v := .b false) (by decide) rfl ?_
    refine o_guardN (j := 8) (e := false) (want := true) (by decide) rfl rfl ?_
    refine o_guardN (j := 8) (e := false) (want := true) (by decide) rfl rfl ?_
    refine o_guardN (j := 8) (e := false) (want := true) (by decide) rfl rfl ?_
    refine o_pickF (v := .b false) (e := false) (by decide) rfl rfl rfl ?_
    refine o_move (v := .b false) (by decide) rfl ?_
    refine o_guardN (j := 13) (e := false) (want := true) (by decide) rfl rfl ?_
    refine o_guardN (j := 13) (e := false) (want := true) (by decide) rfl rfl ?_
    refine o_guardN (j := 13) (e := false) (want := true) (by decide) rfl rfl ?_
    refine o_pickF (v := .b false) (e := false) (by decide) rfl rfl rfl ?_
    refine o_move (v := .b false) (by decide) rfl ?_
    refine o_guardN (j := 18) (e := false) (want := true) (by decide) rfl rfl ?_
    refine o_guardN (j := 18) (e := false) (want := true) (by decide) rfl rfl ?_
    refine o_guardN (j := 18) (e := false) (want := true) (by decide) rfl rfl ?_
    refine o_pickF (v := .b false) (e := false) (by decide) rfl rfl rfl ?_
    refine o_move (v := .b false) (by decide) rfl ?_
    refine o_guardN (j := 23) (e := false) (want := true) (by decide) rfl rfl ?_
    refine o_guardN (j := 23) (e := false) (want := true) (by decide) rfl rfl ?_
    refine o_guardN (j := 23) (e := false) (want := true) (by decide) rfl rfl ?_
    refine o_pickF (v := .b false) (e := false) (by decide) rfl rfl rfl ?_
    refine o_move (v := .b false) (by decide) rfl ?_
    refine o_guardN (j := 28) (e := false) (want := true) (by decide) rfl rfl ?_
    refine o_guardN (j := 28) (e := false) (want := true) (by decide) rfl rfl ?_
    refine o_guardN (j := 28) (e := false) (want := true) (by decide) rfl rfl ?_
    refine o_pickF (v := .b false) (e := false) (by decide) rfl rfl rfl ?_
    refine o_move (v := .b false) (by decide) rfl ?_
    refine o_guardN (j := 33) (e := false) (want := true) (by decide) rfl rfl ?_
    refine o_guardN (j := 33) (e := false) (want := true) (by decide) rfl rfl ?_
    refine o_guardN (j := 33) (e := false) (want := true) (by decide) rfl rfl ?_
    refine o_pickF (v := .b false) (e := false) (by decide) rfl rfl rfl ?_
    refine o_move (v := .b false) (by decide) rfl ?_
    refine o_guardN (j := 38) (e := false) (want := true) (by decide) rfl rfl ?_
    refine o_pickF (v := .b false) (e := false) (by decide) rfl rfl rfl ?_
    refine o_assign (v := .b false) (by decide) rfl ?_
    refine run_nil ?_
    exact w_goto false (.k .nil) ⟨(hS.keep [] rfl).up (by omega), hM⟩
end Go.Proofs.Ytneghcnkcfblmaa
