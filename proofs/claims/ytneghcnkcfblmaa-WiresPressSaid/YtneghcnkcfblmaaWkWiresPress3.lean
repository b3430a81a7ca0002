/-
  The code returns what the functions say (printed by gen.py).
  Conditions: none.
-/
import Derived.Test.YtneghcnkcfblmaaWkWiresPress2
import Derived.Test.YtneghcnkcfblmaaSh
set_option linter.all false
namespace Go.Proofs.Ytneghcnkcfblmaa
open Go Go.AM Go.Law
set_option linter.unusedVariables false
set_option maxRecDepth 4000
set_option maxHeartbeats 4000000
theorem W_law11_WiresPress {n : Nat} {a0 : Wire} {a1 : Ask_} {r : Bool} (hM : law11_WiresPress n a0 a1 = some r) : PureSat Try.prog 6 [.agg (Wire.cells a0), .agg [.i a1.Letter, .i a1.Number]] (.b r) := by
 refine pure_of_wp mixed Try.func6 rfl (by decide) Try.ntmps6 (by simp) ?pure fun H0 g hf => ?_
 case pure => exact .v _
 rw [frame0_of]
 change wpA _ _ _ _ (Fr.of [(0, .agg (Wire.cells a0)), (1, .agg [.i a1.Letter, .i a1.Number])]) H0 g
 have hS := St.start hf
 refine r_seq ?_
 refine r_region (n := 3) rfl ?_
 refine o_box (v := .agg (Wire.cells a0)) (cs := (Wire.cells a0)) hS (by decide) rfl rfl (by omega) fun H hS => ?_
 refine o_box (v := .agg [.i a1.Letter, .i a1.Number]) (cs := [.i a1.Letter, .i a1.Number]) hS (by decide) rfl rfl (by omega) fun H hS => ?_
 refine o_assign (v := .b false) (by decide) rfl ?_
 refine run_nil ?_
 refine w_iceE (L' := [(g + 1, .cells [.i a1.Letter, .i a1.Number])]) 1 2 hS rfl rfl rfl fun H hS => ?_
 refine w_iceE (L' := []) 0 3 hS rfl rfl rfl fun H hS => ?_
 refine w_next [(2, .ep (Wire.cells a0)), (3, .ep [.i a1.Letter, .i a1.Number])] (.k (.k .nil)) ?_
 refine r_seq ?_
 refine w_join (J := Bool) (fun j => [(2, .ep (Wire.cells a0)), (3, .ep [.i a1.Letter, .i a1.Number]), (33, .b j)]) (fun j H' g' => St (· < g) H0 [] H' g' ∧ law11_WiresPress_j1 n a0 a1 j = some r) ?_ ?_
 ·rintro v1 H g1 ⟨hS, hM⟩
  change wpA _ _ _ _ (Fr.of [(2, .ep (Wire.cells a0)), (3, .ep [.i a1.Letter, .i a1.Number]), (33, .b v1)]) _ _
  replace hS : St (· < g) H0 [] H g1 := hS
  replace hM : law11_WiresPress_j1 n a0 a1 v1 = some r := hM
  rcases Bool.eq_false_or_eq_true v1 with hb2 | hb2
  ·replace hM := ifT hM hb2
   refine w_condT (e := v1) rfl hb2 ?_
   refine r_seq ?_
   refine r_region (n := 2) rfl ?_
   obtain ⟨r3, hr3, hM⟩ := bindE hM
   refine o_call (bs := []) (by decide) rfl rfl ((W_law11_works hr3).le .nil) ?_
   refine o_assign (v := .b r3) (by decide) rfl ?_
   refine run_nil ?_
   refine w_next [(4, .b r3)] (.k .nil) ?_
   refine r_ret ?_
   refine r_then_ret ?_
   refine w_end (x := .b r3) (f := fun r => .b r) (.inr rfl) ?_ (.refl _) (Option.some.inj hM) hS
   exact (res_one (res_tmp (x := .b r3) rfl))
  ·replace hM := ifF hM hb2
   refine w_condF (e := v1) rfl hb2 ?_
   refine r_skip ?_
   refine w_next [(2, .ep (Wire.cells a0)), (3, .ep [.i a1.Letter, .i a1.Number])] (.k (.k .nil)) ?_
   refine r_seq ?_
   refine r_region (n := 7) rfl ?_
   refine o_loadE (v := .agg (Wire.cells a0)) (by decide) rfl (part_agg ty_agg24 (Nat.le_of_ble_eq_true rfl) rfl) ?_
   obtain ⟨r4, hr4, hM⟩ := bindE hM
   refine o_call (bs := [.agg (Wire.cells a0)]) (by decide) rfl rfl ((W_wires_Many hr4).le (.k .nil)) ?_
   refine o_move (v := .tup [.i r4.1, .i r4.2]) (by decide) rfl ?_
   refine o_extract (v := .i r4.1) (by decide) rfl rfl ?_
   refine o_extract (v := .i r4.2) (by decide) rfl rfl ?_
   refine o_assign (v := .i r4.1) (by decide) rfl ?_
   refine o_assign (v := .i r4.2) (by decide) rfl ?_
   refine run_nil ?_
   refine w_next [(2, .ep (Wire.cells a0)), (3, .ep [.i a1.Letter, .i a1.Number]), (5, .i r4.1), (6, .i r4.2)] (.k (.k (.k (.k .nil)))) ?_
   refine r_seq ?_
   refine r_region (n := 11) rfl ?_
   refine o_loadE (v := .agg (Wire.cells a0)) (by decide) rfl (part_agg ty_agg24 (Nat.le_of_ble_eq_true rfl) rfl) ?_
   refine o_fieldE (cs := [.i a1.Letter, .i a1.Number]) (by decide) ty_fo38_0 rfl ?_
   refine o_loadE (v := .i a1.Letter) (by decide) rfl (part_one ty_agg3 ty_sc3 rfl) ?_
   refine o_fieldE (cs := [.i a1.Letter, .i a1.Number]) (by decide) ty_fo38_1 rfl ?_
   refine o_loadE (v := .i a1.Number) (by decide) rfl (part_one ty_agg3 ty_sc3 rfl) ?_
   obtain ⟨r5, hr5, hM⟩ := bindE hM
   refine o_call (bs := [.agg (Wire.cells a0), .i a1.Letter, .i a1.Number]) (by decide) rfl rfl ((W_wires_Left hr5).le (.k (.k (.k .nil)))) ?_
   refine o_move (v := .tup [.i r5.1, .i r5.2]) (by decide) rfl ?_
   refine o_extract (v := .i r5.1) (by decide) rfl rfl ?_
   refine o_extract (v := .i r5.2) (by decide) rfl rfl ?_
   refine o_assign (v := .i r5.1) (by decide) rfl ?_
   refine o_assign (v := .i r5.2) (by decide) rfl ?_
   refine run_nil ?_
   refine w_next [(2, .ep (Wire.cells a0)), (3, .ep [.i a1.Letter, .i a1.Number]), (5, .i r4.1), (6, .i r4.2), (7, .i r5.1), (8, .i r5.2)] (.k (.k (.k (.k (.k (.k .nil)))))) ?_
   refine r_seq ?_
   refine r_region (n := 11) rfl ?_
   refine o_loadE (v := .agg (Wire.cells a0)) (by decide) rfl (part_agg ty_agg24 (Nat.le_of_ble_eq_true rfl) rfl) ?_
   refine o_fieldE (cs := [.i a1.Letter, .i a1.Number]) (by decide) ty_fo38_0 rfl ?_
   refine o_loadE (v := .i a1.Letter) (by decide) rfl (part_one ty_agg3 ty_sc3 rfl) ?_
   refine o_fieldE (cs := [.i a1.Letter, .i a1.Number]) (by decide) ty_fo38_1 rfl ?_
   refine o_loadE (v := .i a1.Number) (by decide) rfl (part_one ty_agg3 ty_sc3 rfl) ?_
   obtain ⟨r6, hr6, hM⟩ := bindE hM
   refine o_call (bs := [.agg (Wire.cells a0), .i a1.Letter, .i a1.Number]) (by decide) rfl rfl ((W_wires_Shows hr6).le (.k (.k (.k .nil)))) ?_
   refine o_move (v := .tup [.sl .no 1 (r6.1.map cI), .i r6.2]) (by decide) rfl ?_
   refine o_extract (v := .sl .no 1 (r6.1.map cI)) (by decide) rfl rfl ?_
   refine o_extract (v := .i r6.2) (by decide) rfl rfl ?_
   refine o_assign (v := .sl .no 1 (r6.1.map cI)) (by decide) rfl ?_
   refine o_assign (v := .i r6.2) (by decide) rfl ?_
   refine run_nil ?_
   refine w_next [(2, .ep (Wire.cells a0)), (3, .ep [.i a1.Letter, .i a1.Number]), (5, .i r4.1), (6, .i r4.2), (7, .i r5.1), (8, .i r5.2), (9, .sl .no 1 (r6.1.map cI)), (10, .i r6.2)] (.k (.k (.k (.k (.k (.k (.k (.k .nil)))))))) ?_
   refine r_seq ?_
   refine w_join (J := Bool) (fun j => [(2, .ep (Wire.cells a0)), (3, .ep [.i a1.Letter, .i a1.Number]), (5, .i r4.1), (6, .i r4.2), (7, .i r5.1), (9, .sl .no 1 (r6.1.map cI)), (70, .b j)]) (fun j H' g' => St (· < g) H0 [] H' g' ∧ law11_WiresPress_j2 n a0 a1 r4 r5 r6 j = some r) ?_ ?_
   ·rintro v7 H g2 ⟨hS, hM⟩
    change wpA _ _ _ _ (Fr.of [(2, .ep (Wire.cells a0)), (3, .ep [.i a1.Letter, .i a1.Number]), (5, .i r4.1), (6, .i r4.2), (7, .i r5.1), (9, .sl .no 1 (r6.1.map cI)), (70, .b v7)]) _ _
    replace hS : St (· < g) H0 [] H g2 := hS
    replace hM : law11_WiresPress_j2 n a0 a1 r4 r5 r6 v7 = some r := hM
    rcases Bool.eq_false_or_eq_true v7 with hb8 | hb8
    ·replace hM := ifT hM hb8
     refine w_condT (e := v7) rfl hb8 ?_
     refine r_seq ?_
     refine r_region (n := 1) rfl ?_
     refine o_assign (v := .b false) (by decide) rfl ?_
     refine run_nil ?_
     refine w_next [(4, .b false)] (.k .nil) ?_
     refine r_ret ?_
     refine r_then_ret ?_
     refine w_end (x := .b false) (f := fun r => .b r) (.inr rfl) ?_ (.refl _) (Option.some.inj hM) hS
     exact (res_one (res_tmp (x := .b false) rfl))
    ·replace hM := ifF hM hb8
     refine w_condF (e := v7) rfl hb8 ?_
     refine r_skip ?_
     refine w_next [(2, .ep (Wire.cells a0)), (3, .ep [.i a1.Letter, .i a1.Number]), (5, .i r4.1), (6, .i r4.2), (7, .i r5.1), (9, .sl .no 1 (r6.1.map cI))] (.k (.k (.k (.k (.k (.k .nil)))))) ?_
     refine r_seq ?_
     refine r_seq ?_
     refine r_region (n := 2) rfl ?_
     refine o_move (v := .i r4.2) (by decide) rfl ?_
     refine o_int (v := .b (r4.2 != 0)) (by decide) rfl rfl rfl ?_
     refine run_nil ?_
     refine w_next [(2, .ep (Wire.cells a0)), (3, .ep [.i a1.Letter, .i a1.Number]), (5, .i r4.1), (7, .i r5.1), (9, .sl .no 1 (r6.1.map cI)), (72, .b (r4.2 != 0))] (.k (.k (.k (.k (.k (.k .nil)))))) ?_
     rcases Bool.eq_false_or_eq_true (r4.2 != 0) with hb9 | hb9
     ·replace hM := ifT hM hb9
      refine w_condT (e := (r4.2 != 0)) rfl hb9 ?_
      refine r_seq ?_
      refine r_region (n := 2) rfl ?_
      obtain ⟨r10, hr10, hM⟩ := bindE hM
      refine o_call (bs := []) (by decide) rfl rfl ((W_law11_works hr10).le .nil) ?_
      refine o_assign (v := .b r10) (by decide) rfl ?_
      refine run_nil ?_
      refine w_next [(4, .b r10)] (.k .nil) ?_
      refine r_ret ?_
      refine r_then_ret ?_
      refine w_end (x := .b r10) (f := fun r => .b r) (.inr rfl) ?_ (.refl _) (Option.some.inj hM) hS
      exact (res_one (res_tmp (x := .b r10) rfl))
     ·replace hM := ifF hM hb9
      refine w_condF (e := (r4.2 != 0)) rfl hb9 ?_
      refine r_skip ?_
      refine w_next [(2, .ep (Wire.cells a0)), (3, .ep [.i a1.Letter, .i a1.Number]), (5, .i r4.1), (7, .i r5.1), (9, .sl .no 1 (r6.1.map cI))] (.k (.k (.k (.k (.k .nil))))) ?_
      refine r_seq ?_
      refine r_region (n := 2) rfl ?_
      refine o_assign (v := .i 0) (by decide) rfl ?_
      refine o_assign (v := .i 0) (by decide) rfl ?_
      refine run_nil ?_
      refine w_next [(2, .ep (Wire.cells a0)), (3, .ep [.i a1.Letter, .i a1.Number]), (5, .i r4.1), (7, .i r5.1), (9, .sl .no 1 (r6.1.map cI)), (11, .i 0), (12, .i 0)] (.k (.k (.k (.k (.k (.k (.k .nil))))))) ?_
      refine w_join (J := Int × Int) (fun j => [(5, .i r4.1), (7, .i r5.1), (11, .i j.1), (12, .i j.2)]) (fun j H' g' => St (· < g) H0 [] H' g' ∧ law11_WiresPress_j3 n r4 r5 j.1 j.2 = some r) ?_ ?_
      ·rintro ⟨v11, v12⟩ H g3 ⟨hS, hM⟩
       change wpA _ _ _ _ (Fr.of [(5, .i r4.1), (7, .i r5.1), (11, .i v11), (12, .i v12)]) _ _
       replace hS : St (· < g) H0 [] H g3 := hS
       replace hM : law11_WiresPress_j3 n r4 r5 v11 v12 = some r := hM
       refine w_join (J := Bool) (fun j => [(4, .b j)]) (fun j H' g' => St (· < g) H0 [] H' g' ∧ law11_WiresPress_j4 j = some r) ?_ ?_
       ·rintro v13 H g4 ⟨hS, hM⟩
        change wpA _ _ _ _ (Fr.of [(4, .b v13)]) _ _
        replace hS : St (· < g) H0 [] H g4 := hS
        replace hM : law11_WiresPress_j4 v13 = some r := hM
        refine r_ret ?_
        refine w_end (x := .b v13) (f := fun r => .b r) (.inr rfl) ?_ (.refl _) (Option.some.inj hM) hS
        exact (res_one (res_tmp (x := .b v13) rfl))
       ·refine r_region (n := 12) rfl ?_
        refine o_move (v := .i v11) (by decide) rfl ?_
        refine o_move (v := .i r4.1) (by decide) rfl ?_
        refine o_int (v := .b (v11 == r4.1)) (by decide) rfl rfl rfl ?_
        refine o_move (v := .b (v11 == r4.1)) (by decide) rfl ?_
        rcases Bool.eq_false_or_eq_true (v11 == r4.1) with hb14 | hb14
        ·replace hM := ifT hM hb14
         refine o_guardY (j := 3) (e := (v11 == r4.1)) (want := true) rfl hb14 ?_
         refine o_move (v := .i v12) (by decide) rfl ?_
         refine o_guardY (j := 3) (e := (v11 == r4.1)) (want := true) rfl hb14 ?_
         refine o_move (v := .i r5.1) (by decide) rfl ?_
         refine o_guardY (j := 3) (e := (v11 == r4.1)) (want := true) rfl hb14 ?_
         refine o_int (v := .b (v12 == r5.1)) (by decide) rfl rfl rfl ?_
         refine o_pickT (v := .b (v12 == r5.1)) (e := (v11 == r4.1)) (by decide) rfl hb14 rfl ?_
         refine o_move (v := .b (v12 == r5.1)) (by decide) rfl ?_
         rcases Bool.eq_false_or_eq_true (v12 == r5.1) with hb15 | hb15
         ·replace hM := ifT hM hb15
          refine o_guardY (j := 8) (e := (v12 == r5.1)) (want := true) rfl hb15 ?_
          obtain ⟨r16, hr16, hM⟩ := bindE hM
          refine o_call (bs := []) (by decide) rfl rfl ((W_law11_works hr16).le .nil) ?_
          refine o_pickT (v := .b r16) (e := (v12 == r5.1)) (by decide) rfl hb15 rfl ?_
          refine o_assign (v := .b r16) (by decide) rfl ?_
          refine run_nil ?_
          exact w_goto r16 (.k .nil) ⟨(hS.keep [] rfl).up (by omega), hM⟩
         ·replace hM := ifF hM hb15
          refine o_guardN (j := 8) (e := (v12 == r5.1)) (want := true) (by decide) rfl hb15 ?_
          refine o_pickF (v := .b false) (e := (v12 == r5.1)) (by decide) rfl hb15 rfl ?_
          refine o_assign (v := .b false) (by decide) rfl ?_
          refine run_nil ?_
          exact w_goto false (.k .nil) ⟨(hS.keep [] rfl).up (by omega), hM⟩
        ·replace hM := ifF hM hb14
         refine o_guardN (j := 3) (e := (v11 == r4.1)) (want := true) (by decide) rfl hb14 ?_
         refine o_guardN (j := 3) (e := (v11 == r4.1)) (want := true) (by decide) rfl hb14 ?_
         refine o_guardN (j := 3) (e := (v11 == r4.1)) (want := true) (by decide) rfl hb14 ?_
         refine o_pickF (v := .b false) (e := (v11 == r4.1)) (by decide) rfl hb14 rfl ?_
         refine o_move (v := .b false) (by decide) rfl ?_
         refine o_guardN (j := 8) (e := false) (want := true) (by decide) rfl rfl ?_
         refine o_pickF (v := .b false) (e := false) (by decide) rfl rfl rfl ?_
         refine o_assign (v := .b false) (by decide) rfl ?_
         refine run_nil ?_
         exact w_goto false (.k .nil) ⟨(hS.keep [] rfl).up (by omega), hM⟩
      ·refine r_seq ?_
       refine r_region (n := 1) rfl ?_
       refine o_assign (v := .i (-1)) (by decide) rfl ?_
       refine run_nil ?_
       refine w_next [(2, .ep (Wire.cells a0)), (3, .ep [.i a1.Letter, .i a1.Number]), (5, .i r4.1), (7, .i r5.1), (9, .sl .no 1 (r6.1.map cI)), (11, .i 0), (12, .i 0), (13, .i (-1))] (.k (.k (.k (.k (.k (.k (.k (.k .nil)))))))) ?_
       refine r_block ?_
       refine w_loop (V := Int × Int × Int) (fun v => [(2, .ep (Wire.cells a0)), (3, .ep [.i a1.Letter, .i a1.Number]), (5, .i r4.1), (7, .i r5.1), (9, .sl .no 1 (r6.1.map cI)), (11, .i v.1), (12, .i v.2.1), (13, .i v.2.2)]) (fun v m5 H' g' => St (· < g) H0 [] H' g' ∧ law11_WiresPress_l1 n a0 a1 r4 r5 r6 m5 v.1 v.2.1 v.2.2 = some r) (n := n) (0, 0, (-1)) (.k (.k (.k (.k (.k (.k (.k (.k .nil)))))))) ⟨(hS.keep [] rfl).up (by omega), hM⟩ ?_
       rintro ⟨v17, v18, v19⟩ m5 H g5 ⟨hS, hM⟩
       obtain _ | m5 := m5
       ·exact nomatch (show none = some _ from hM)
       change wpA _ _ _ _ (Fr.of [(2, .ep (Wire.cells a0)), (3, .ep [.i a1.Letter, .i a1.Number]), (5, .i r4.1), (7, .i r5.1), (9, .sl .no 1 (r6.1.map cI)), (11, .i v17), (12, .i v18), (13, .i v19)]) _ _
       replace hS : St (· < g) H0 [] H g5 := hS
       replace hM : law11_WiresPress_l1_b n a0 a1 r4 r5 r6 (law11_WiresPress_l1 n a0 a1 r4 r5 r6 m5) v17 v18 v19 = some r := hM
       refine r_seq ?_
       refine r_seq ?_
       refine r_region (n := 7) rfl ?_
       refine o_move (v := .i v19) (by decide) rfl ?_
       refine o_fieldE (cs := (Wire.cells a0)) (by decide) ty_fo24_0 rfl ?_
       refine o_loadE (v := .i a0.Letters) (by decide) rfl (part_one ty_agg3 ty_sc3 rfl) ?_
       refine o_fieldE (cs := (Wire.cells a0)) (by decide) ty_fo24_1 rfl ?_
       refine o_loadE (v := .i a0.Numbers) (by decide) rfl (part_one ty_agg3 ty_sc3 rfl) ?_
       refine o_int (v := .i (w64 (a0.Letters * a0.Numbers))) (by decide) rfl rfl rfl ?_
       refine o_int (v := .b (decide (v19 < (w64 (a0.Letters * a0.Numbers))))) (by decide) rfl rfl rfl ?_
       refine run_nil ?_
       refine w_next [(2, .ep (Wire.cells a0)), (3, .ep [.i a1.Letter, .i a1.Number]), (5, .i r4.1), (7, .i r5.1), (9, .sl .no 1 (r6.1.map cI)), (11, .i v17), (12, .i v18), (13, .i v19), (80, .b (decide (v19 < (w64 (a0.Letters * a0.Numbers)))))] (.k (.k (.k (.k (.k (.k (.k (.k (.k .nil))))))))) ?_
       rcases Bool.eq_false_or_eq_true (decide (v19 < (w64 (a0.Letters * a0.Numbers)))) with hb20 | hb20
       ·replace hM := ifT hM hb20
        refine w_condT (e := (decide (v19 < (w64 (a0.Letters * a0.Numbers))))) rfl hb20 ?_
        refine r_skip ?_
        refine w_next [(2, .ep (Wire.cells a0)), (3, .ep [.i a1.Letter, .i a1.Number]), (5, .i r4.1), (7, .i r5.1), (9, .sl .no 1 (r6.1.map cI)), (11, .i v17), (12, .i v18), (13, .i v19)] (.k (.k (.k (.k (.k (.k (.k (.k .nil)))))))) ?_
        refine r_seq ?_
        refine r_block ?_
        refine r_seq ?_
        refine r_region (n := 14) rfl ?_
        refine o_loadE (v := .agg (Wire.cells a0)) (by decide) rfl (part_agg ty_agg24 (Nat.le_of_ble_eq_true rfl) rfl) ?_
        refine o_fieldE (cs := [.i a1.Letter, .i a1.Number]) (by decide) ty_fo38_0 rfl ?_
        refine o_loadE (v := .i a1.Letter) (by decide) rfl (part_one ty_agg3 ty_sc3 rfl) ?_
        refine o_fieldE (cs := [.i a1.Letter, .i a1.Number]) (by decide) ty_fo38_1 rfl ?_
        refine o_loadE (v := .i a1.Number) (by decide) rfl (part_one ty_agg3 ty_sc3 rfl) ?_
        refine o_move (v := .i v19) (by decide) rfl ?_
        refine o_build (cs := [.i a1.Letter, .i a1.Number, .i v19]) (by decide) ty_zero50 ty_pl50 rfl ?_
        obtain ⟨r21, hr21, hM⟩ := bindE hM
        refine o_call (bs := [.agg (Wire.cells a0), .agg [.i a1.Letter, .i a1.Number, .i v19]]) (by decide) rfl rfl ((W_ref11_With hr21).le (.k (.k .nil))) ?_
        obtain ⟨r22, hr22, hM⟩ := bindE hM
        refine o_call (bs := [.agg (Wire.cells r21)]) (by decide) rfl rfl ((W_wires_Many hr22).le (.k .nil)) ?_
        refine o_move (v := .tup [.i r22.1, .i r22.2]) (by decide) rfl ?_
        refine o_extract (v := .i r22.1) (by decide) rfl rfl ?_
        refine o_extract (v := .i r22.2) (by decide) rfl rfl ?_
        refine o_assign (v := .i r22.1) (by decide) rfl ?_
        refine o_assign (v := .i r22.2) (by decide) rfl ?_
        refine run_nil ?_
        refine w_next [(2, .ep (Wire.cells a0)), (3, .ep [.i a1.Letter, .i a1.Number]), (5, .i r4.1), (7, .i r5.1), (9, .sl .no 1 (r6.1.map cI)), (11, .i v17), (12, .i v18), (13, .i v19), (14, .i r22.1), (15, .i r22.2)] (.k (.k (.k (.k (.k (.k (.k (.k (.k (.k .nil)))))))))) ?_
        refine r_seq ?_
        refine w_join (J := Bool) (fun j => [(2, .ep (Wire.cells a0)), (3, .ep [.i a1.Letter, .i a1.Number]), (5, .i r4.1), (7, .i r5.1), (9, .sl .no 1 (r6.1.map cI)), (11, .i v17), (12, .i v18), (13, .i v19), (14, .i r22.1), (114, .b j)]) (fun j H' g' => St (· < g) H0 [] H' g' ∧ law11_WiresPress_j5 (law11_WiresPress_l1 n a0 a1 r4 r5 r6 m5) v17 v18 v19 r22 j = some r) ?_ ?_
        ·rintro v23 H g6 ⟨hS, hM⟩
         change wpA _ _ _ _ (Fr.of [(2, .ep (Wire.cells a0)), (3, .ep [.i a1.Letter, .i a1.Number]), (5, .i r4.1), (7, .i r5.1), (9, .sl .no 1 (r6.1.map cI)), (11, .i v17), (12, .i v18), (13, .i v19), (14, .i r22.1), (114, .b v23)]) _ _
         replace hS : St (· < g) H0 [] H g6 := hS
         replace hM : law11_WiresPress_j5 (law11_WiresPress_l1 n a0 a1 r4 r5 r6 m5) v17 v18 v19 r22 v23 = some r := hM
         rcases Bool.eq_false_or_eq_true v23 with hb24 | hb24
         ·replace hM := ifT hM hb24
          refine w_condT (e := v23) rfl hb24 ?_
          refine r_seq ?_
          refine r_region (n := 1) rfl ?_
          refine o_assign (v := .b false) (by decide) rfl ?_
          refine run_nil ?_
          refine w_next [(4, .b false)] (.k .nil) ?_
          refine r_ret ?_
          refine r_then_ret ?_
          refine r_blk_ret ?_
          refine r_then_ret ?_
          refine w_round_ret ?_
          refine r_blk_ret ?_
          refine w_goto_ret ?_
          refine w_end (x := .b false) (f := fun r => .b r) (.inr rfl) ?_ (.refl _) (Option.some.inj hM) hS
          exact (res_one (res_tmp (x := .b false) rfl))
         ·replace hM := ifF hM hb24
          refine w_condF (e := v23) rfl hb24 ?_
          refine r_skip ?_
          refine w_next [(2, .ep (Wire.cells a0)), (3, .ep [.i a1.Letter, .i a1.Number]), (5, .i r4.1), (7, .i r5.1), (9, .sl .no 1 (r6.1.map cI)), (11, .i v17), (12, .i v18), (13, .i v19), (14, .i r22.1)] (.k (.k (.k (.k (.k (.k (.k (.k (.k .nil))))))))) ?_
          refine r_region (n := 8) rfl ?_
          refine o_move (v := .i v17) (by decide) rfl ?_
          refine o_move (v := .i r22.1) (by decide) rfl ?_
          refine o_int (v := .i (w64 (v17 + r22.1))) (by decide) rfl rfl rfl ?_
          refine o_move (v := .i v18) (by decide) rfl ?_
          refine o_move (v := .i r22.1) (by decide) rfl ?_
          refine o_max (v := .i (max v18 r22.1)) (by decide) rfl ?_
          refine o_assign (v := .i (w64 (v17 + r22.1))) (by decide) rfl ?_
          refine o_assign (v := .i (max v18 r22.1)) (by decide) rfl ?_
          refine run_nil ?_
          refine r_blk_normal ?_
          refine w_next [(2, .ep (Wire.cells a0)), (3, .ep [.i a1.Letter, .i a1.Number]), (5, .i r4.1), (7, .i r5.1), (9, .sl .no 1 (r6.1.map cI)), (11, .i (w64 (v17 + r22.1))), (12, .i (max v18 r22.1)), (13, .i v19)] (.k (.k (.k (.k (.k (.k (.k (.k .nil)))))))) ?_
          refine r_region (n := 3) rfl ?_
          refine o_move (v := .i v19) (by decide) rfl ?_
          refine o_int (v := .i (w64 (v19 + 1))) (by decide) rfl rfl rfl ?_
          refine o_assign (v := .i (w64 (v19 + 1))) (by decide) rfl ?_
          refine run_nil ?_
          exact w_round (w64 (v17 + r22.1), (max v18 r22.1), w64 (v19 + 1)) (Nat.lt_succ_self _) (.k (.k (.k (.k (.k (.k (.k (.k .nil)))))))) ⟨(hS.keep [] rfl).up (by omega), hM⟩
        ·refine r_region (n := 20) rfl ?_
         refine o_move (v := .i r22.2) (by decide) rfl ?_
         obtain ⟨r25, hr25, hM⟩ := bindE hM
         refine o_call (bs := [.i r22.2]) (by decide) rfl rfl ((W_law11_isKnown hr25).le (.k .nil)) ?_
         refine o_not (e := r25) (by decide) rfl ?_
         refine o_move (v := .b (!r25)) (by decide) rfl ?_
         rcases Bool.eq_false_or_eq_true (!r25) with hb26 | hb26
         ·replace hM := ifT hM hb26
          refine o_guardN (j := 3) (e := (!r25)) (want := false) (by decide) rfl hb26 ?_
          refine o_guardN (j := 3) (e := (!r25)) (want := false) (by decide) rfl hb26 ?_
          refine o_pickT (v := .b true) (e := (!r25)) (by decide) rfl hb26 rfl ?_
          refine o_move (v := .b true) (by decide) rfl ?_
          refine o_guardN (j := 7) (e := true) (want := false) (by decide) rfl rfl ?_
          refine o_guardN (j := 7) (e := true) (want := false) (by decide) rfl rfl ?_
          refine o_guardN (j := 7) (e := true) (want := false) (by decide) rfl rfl ?_
          refine o_pickT (v := .b true) (e := true) (by decide) rfl rfl rfl ?_
          refine o_move (v := .b true) (by decide) rfl ?_
          refine o_guardN (j := 12) (e := true) (want := false) (by decide) rfl rfl ?_
          refine o_guardN (j := 12) (e := true) (want := false) (by decide) rfl rfl ?_
          refine o_guardN (j := 12) (e := true) (want := false) (by decide) rfl rfl ?_
          refine o_guardN (j := 12) (e := true) (want := false) (by decide) rfl rfl ?_
          refine o_guardN (j := 12) (e := true) (want := false) (by decide) rfl rfl ?_
          refine o_guardN (j := 12) (e := true) (want := false) (by decide) rfl rfl ?_
          refine o_pickT (v := .b true) (e := true) (by decide) rfl rfl rfl ?_
          refine run_nil ?_
          exact w_goto true (.k (.k (.k (.k (.k (.k (.k (.k (.k (.k .nil)))))))))) ⟨(hS.keep [] rfl).up (by omega), hM⟩
         ·replace hM := ifF hM hb26
          refine o_guardY (j := 3) (e := (!r25)) (want := false) rfl hb26 ?_
          refine o_move (v := .i r22.1) (by decide) rfl ?_
          refine o_guardY (j := 3) (e := (!r25)) (want := false) rfl hb26 ?_
          refine o_int (v := .b (decide (r22.1 < 0))) (by decide) rfl rfl rfl ?_
          refine o_pickF (v := .b (decide (r22.1 < 0))) (e := (!r25)) (by decide) rfl hb26 rfl ?_
          refine o_move (v := .b (decide (r22.1 < 0))) (by decide) rfl ?_
          rcases Bool.eq_false_or_eq_true (decide (r22.1 < 0)) with hb27 | hb27
          ·replace hM := ifT hM hb27
           refine o_guardN (j := 7) (e := (decide (r22.1 < 0))) (want := false) (by decide) rfl hb27 ?_
           refine o_guardN (j := 7) (e := (decide (r22.1 < 0))) (want := false) (by decide) rfl hb27 ?_
           refine o_guardN (j := 7) (e := (decide (r22.1 < 0))) (want := false) (by decide) rfl hb27 ?_
           refine o_pickT (v := .b true) (e := (decide (r22.1 < 0))) (by decide) rfl hb27 rfl ?_
           refine o_move (v := .b true) (by decide) rfl ?_
           refine o_guardN (j := 12) (e := true) (want := false) (by decide) rfl rfl ?_
           refine o_guardN (j := 12) (e := true) (want := false) (by decide) rfl rfl ?_
           refine o_guardN (j := 12) (e := true) (want := false) (by decide) rfl rfl ?_
           refine o_guardN (j := 12) (e := true) (want := false) (by decide) rfl rfl ?_
           refine o_guardN (j := 12) (e := true) (want := false) (by decide) rfl rfl ?_
           refine o_guardN (j := 12) (e := true) (want := false) (by decide) rfl rfl ?_
           refine o_pickT (v := .b true) (e := true) (by decide) rfl rfl rfl ?_
           refine run_nil ?_
           exact w_goto true (.k (.k (.k (.k (.k (.k (.k (.k (.k (.k .nil)))))))))) ⟨(hS.keep [] rfl).up (by omega), hM⟩
          ·replace hM := ifF hM hb27
           refine o_guardY (j := 7) (e := (decide (r22.1 < 0))) (want := false) rfl hb27 ?_
           refine o_move (v := .i r22.1) (by decide) rfl ?_
           refine o_guardY (j := 7) (e := (decide (r22.1 < 0))) (want := false) rfl hb27 ?_
           refine o_move (v := .i r4.1) (by decide) rfl ?_
           refine o_guardY (j := 7) (e := (decide (r22.1 < 0))) (want := false) rfl hb27 ?_
           refine o_int (v := .b (decide (r22.1 > r4.1))) (by decide) rfl rfl rfl ?_
           refine o_pickF (v := .b (decide (r22.1 > r4.1))) (e := (decide (r22.1 < 0))) (by decide) rfl hb27 rfl ?_
           refine o_move (v := .b (decide (r22.1 > r4.1))) (by decide) rfl ?_
           rcases Bool.eq_false_or_eq_true (decide (r22.1 > r4.1)) with hb28 | hb28
           ·replace hM := ifT hM hb28
            refine o_guardN (j := 12) (e := (decide (r22.1 > r4.1))) (want := false) (by decide) rfl hb28 ?_
            refine o_guardN (j := 12) (e := (decide (r22.1 > r4.1))) (want := false) (by decide) rfl hb28 ?_
            refine o_guardN (j := 12) (e := (decide (r22.1 > r4.1))) (want := false) (by decide) rfl hb28 ?_
            refine o_guardN (j := 12) (e := (decide (r22.1 > r4.1))) (want := false) (by decide) rfl hb28 ?_
            refine o_guardN (j := 12) (e := (decide (r22.1 > r4.1))) (want := false) (by decide) rfl hb28 ?_
            refine o_guardN (j := 12) (e := (decide (r22.1 > r4.1))) (want := false) (by decide) rfl hb28 ?_
            refine o_pickT (v := .b true) (e := (decide (r22.1 > r4.1))) (by decide) rfl hb28 rfl ?_
            refine run_nil ?_
            exact w_goto true (.k (.k (.k (.k (.k (.k (.k (.k (.k (.k .nil)))))))))) ⟨(hS.keep [] rfl).up (by omega), hM⟩
           ·replace hM := ifF hM hb28
            refine o_guardY (j := 12) (e := (decide (r22.1 > r4.1))) (want := false) rfl hb28 ?_
            refine o_move (v := .i r22.2) (by decide) rfl ?_
            refine o_guardY (j := 12) (e := (decide (r22.1 > r4.1))) (want := false) rfl hb28 ?_
            refine o_int (v := .b (r22.2 == 0)) (by decide) rfl rfl rfl ?_
            refine o_guardY (j := 12) (e := (decide (r22.1 > r4.1))) (want := false) rfl hb28 ?_
            refine o_move (v := .sl .no 1 (r6.1.map cI)) (by decide) rfl ?_
            refine o_guardY (j := 12) (e := (decide (r22.1 > r4.1))) (want := false) rfl hb28 ?_
            refine o_move (v := .i v19) (by decide) rfl ?_
            refine o_guardY (j := 12) (e := (decide (r22.1 > r4.1))) (want := false) rfl hb28 ?_
            obtain ⟨r29, hr29, hM⟩ := bindE hM
            refine o_call (bs := [.sl .no 1 (r6.1.map cI), .i v19]) (by decide) rfl rfl ((W_ref01_In hr29).le (.k (.k .nil))) ?_
            refine o_guardY (j := 12) (e := (decide (r22.1 > r4.1))) (want := false) rfl hb28 ?_
            refine o_neB (m := (r22.2 == 0)) (n := r29) (by decide) rfl rfl ty_bool4 ?_
            refine o_pickF (v := .b (!((r22.2 == 0) == r29))) (e := (decide (r22.1 > r4.1))) (by decide) rfl hb28 rfl ?_
            refine run_nil ?_
            exact w_goto (!((r22.2 == 0) == r29)) (.k (.k (.k (.k (.k (.k (.k (.k (.k (.k .nil)))))))))) ⟨(hS.keep [] rfl).up (by omega), hM⟩
       ·replace hM := ifF hM hb20
        refine w_condF (e := (decide (v19 < (w64 (a0.Letters * a0.Numbers))))) rfl hb20 ?_
        refine r_exit ?_
        refine r_then_exit ?_
        refine w_round_exit ?_
        refine r_blk_exit ?_
        exact w_goto (v17, v18) (.k (.k (.k (.k .nil)))) ⟨(hS.keep [] rfl).up (by omega), hM⟩
   ·refine r_region (n := 13) rfl ?_
    refine o_move (v := .i r4.2) (by decide) rfl ?_
    obtain ⟨r30, hr30, hM⟩ := bindE hM
    refine o_call (bs := [.i r4.2]) (by decide) rfl rfl ((W_law11_isKnown hr30).le (.k .nil)) ?_
    refine o_not (e := r30) (by decide) rfl ?_
    refine o_move (v := .b (!r30)) (by decide) rfl ?_
    rcases Bool.eq_false_or_eq_true (!r30) with hb31 | hb31
    ·replace hM := ifT hM hb31
     refine o_guardN (j := 3) (e := (!r30)) (want := false) (by decide) rfl hb31 ?_
     refine o_guardN (j := 3) (e := (!r30)) (want := false) (by decide) rfl hb31 ?_
     refine o_guardN (j := 3) (e := (!r30)) (want := false) (by decide) rfl hb31 ?_
     refine o_pickT (v := .b true) (e := (!r30)) (by decide) rfl hb31 rfl ?_
     refine o_move (v := .b true) (by decide) rfl ?_
     refine o_guardN (j := 8) (e := true) (want := false) (by decide) rfl rfl ?_
     refine o_guardN (j := 8) (e := true) (want := false) (by decide) rfl rfl ?_
     refine o_guardN (j := 8) (e := true) (want := false) (by decide) rfl rfl ?_
     refine o_pickT (v := .b true) (e := true) (by decide) rfl rfl rfl ?_
     refine run_nil ?_
     exact w_goto true (.k (.k (.k (.k (.k (.k (.k .nil))))))) ⟨(hS.keep [] rfl).up (by omega), hM⟩
    ·replace hM := ifF hM hb31
     refine o_guardY (j := 3) (e := (!r30)) (want := false) rfl hb31 ?_
     refine o_move (v := .i r5.2) (by decide) rfl ?_
     refine o_guardY (j := 3) (e := (!r30)) (want := false) rfl hb31 ?_
     refine o_move (v := .i r4.2) (by decide) rfl ?_
     refine o_guardY (j := 3) (e := (!r30)) (want := false) rfl hb31 ?_
     refine o_int (v := .b (r5.2 != r4.2)) (by decide) rfl rfl rfl ?_
     refine o_pickF (v := .b (r5.2 != r4.2)) (e := (!r30)) (by decide) rfl hb31 rfl ?_
     refine o_move (v := .b (r5.2 != r4.2)) (by decide) rfl ?_
     rcases Bool.eq_false_or_eq_true (r5.2 != r4.2) with hb32 | hb32
     ·replace hM := ifT hM hb32
      refine o_guardN (j := 8) (e := (r5.2 != r4.2)) (want := false) (by decide) rfl hb32 ?_
      refine o_guardN (j := 8) (e := (r5.2 != r4.2)) (want := false) (by decide) rfl hb32 ?_
      refine o_guardN (j := 8) (e := (r5.2 != r4.2)) (want := false) (by decide) rfl hb32 ?_
      refine o_pickT (v := .b true) (e := (r5.2 != r4.2)) (by decide) rfl hb32 rfl ?_
      refine run_nil ?_
      exact w_goto true (.k (.k (.k (.k (.k (.k (.k .nil))))))) ⟨(hS.keep [] rfl).up (by omega), hM⟩
     ·replace hM := ifF hM hb32
      refine o_guardY (j := 8) (e := (r5.2 != r4.2)) (want := false) rfl hb32 ?_
      refine o_move (v := .i r6.2) (by decide) rfl ?_
      refine o_guardY (j := 8) (e := (r5.2 != r4.2)) (want := false) rfl hb32 ?_
      refine o_move (v := .i r4.2) (by decide) rfl ?_
      refine o_guardY (j := 8) (e := (r5.2 != r4.2)) (want := false) rfl hb32 ?_
      refine o_int (v := .b (r6.2 != r4.2)) (by decide) rfl rfl rfl ?_
      refine o_pickF (v := .b (r6.2 != r4.2)) (e := (r5.2 != r4.2)) (by decide) rfl hb32 rfl ?_
      refine run_nil ?_
      exact w_goto (r6.2 != r4.2) (.k (.k (.k (.k (.k (.k (.k .nil))))))) ⟨(hS.keep [] rfl).up (by omega), hM⟩
 ·refine r_region (n := 18) rfl ?_
  refine o_loadE (v := .agg (Wire.cells a0)) (by decide) rfl (part_agg ty_agg24 (Nat.le_of_ble_eq_true rfl) rfl) ?_
  obtain ⟨r33, hr33, hM⟩ := bindE hM
  refine o_call (bs := [.agg (Wire.cells a0)]) (by decide) rfl rfl ((W_law11_ready hr33).le (.k .nil)) ?_
  refine o_not (e := r33) (by decide) rfl ?_
  refine o_move (v := .b (!r33)) (by decide) rfl ?_
  rcases Bool.eq_false_or_eq_true (!r33) with hb34 | hb34
  ·replace hM := ifT hM hb34
   refine o_guardN (j := 3) (e := (!r33)) (want := false) (by decide) rfl hb34 ?_
   refine o_guardN (j := 3) (e := (!r33)) (want := false) (by decide) rfl hb34 ?_
   refine o_guardN (j := 3) (e := (!r33)) (want := false) (by decide) rfl hb34 ?_
   refine o_guardN (j := 3) (e := (!r33)) (want := false) (by decide) rfl hb34 ?_
   refine o_pickT (v := .b true) (e := (!r33)) (by decide) rfl hb34 rfl ?_
   refine o_move (v := .b true) (by decide) rfl ?_
   refine o_guardN (j := 9) (e := true) (want := false) (by decide) rfl rfl ?_
   refine o_guardN (j := 9) (e := true) (want := false) (by decide) rfl rfl ?_
   refine o_guardN (j := 9) (e := true) (want := false) (by decide) rfl rfl ?_
   refine o_guardN (j := 9) (e := true) (want := false) (by decide) rfl rfl ?_
   refine o_guardN (j := 9) (e := true) (want := false) (by decide) rfl rfl ?_
   refine o_guardN (j := 9) (e := true) (want := false) (by decide) rfl rfl ?_
   refine o_guardN (j := 9) (e := true) (want := false) (by decide) rfl rfl ?_
   refine o_pickT (v := .b true) (e := true) (by decide) rfl rfl rfl ?_
   refine run_nil ?_
   exact w_goto true (.k (.k (.k .nil))) ⟨(hS.keep [] rfl).up (by omega), hM⟩
  ·replace hM := ifF hM hb34
   refine o_guardY (j := 3) (e := (!r33)) (want := false) rfl hb34 ?_
   refine o_fieldE (cs := (Wire.cells a0)) (by decide) ty_fo24_2 rfl ?_
   refine o_guardY (j := 3) (e := (!r33)) (want := false) rfl hb34 ?_
   refine o_loadE (v := .sl .no 3 (a0.Presses.map WirePress.cells)) (by decide) rfl (part_one ty_agg22 ty_sc22 rfl) ?_
   refine o_guardY (j := 3) (e := (!r33)) (want := false) rfl hb34 ?_
   refine o_len (n := a0.Presses.length) (by decide) rfl (List.length_map _) ty_isl22 ?_
   refine o_guardY (j := 3) (e := (!r33)) (want := false) rfl hb34 ?_
   refine o_int (v := .b (decide ((a0.Presses.length : Int) ≥ 8))) (by decide) rfl rfl rfl ?_
   refine o_pickF (v := .b (decide ((a0.Presses.length : Int) ≥ 8))) (e := (!r33)) (by decide) rfl hb34 rfl ?_
   refine o_move (v := .b (decide ((a0.Presses.length : Int) ≥ 8))) (by decide) rfl ?_
   rcases Bool.eq_false_or_eq_true (decide ((a0.Presses.length : Int) ≥ 8)) with hb35 | hb35
   ·replace hM := ifT hM hb35
    refine o_guardN (j := 9) (e := (decide ((a0.Presses.length : Int) ≥ 8))) (want := false) (by decide) rfl hb35 ?_
    refine o_guardN (j := 9) (e := (decide ((a0.Presses.length : Int) ≥ 8))) (want := false) (by decide) rfl hb35 ?_
    refine o_guardN (j := 9) (e := (decide ((a0.Presses.length : Int) ≥ 8))) (want := false) (by decide) rfl hb35 ?_
    refine o_guardN (j := 9) (e := (decide ((a0.Presses.length : Int) ≥ 8))) (want := false) (by decide) rfl hb35 ?_
    refine o_guardN (j := 9) (e := (decide ((a0.Presses.length : Int) ≥ 8))) (want := false) (by decide) rfl hb35 ?_
    refine o_guardN (j := 9) (e := (decide ((a0.Presses.length : Int) ≥ 8))) (want := false) (by decide) rfl hb35 ?_
    refine o_guardN (j := 9) (e := (decide ((a0.Presses.length : Int) ≥ 8))) (want := false) (by decide) rfl hb35 ?_
    refine o_pickT (v := .b true) (e := (decide ((a0.Presses.length : Int) ≥ 8))) (by decide) rfl hb35 rfl ?_
    refine run_nil ?_
    exact w_goto true (.k (.k (.k .nil))) ⟨(hS.keep [] rfl).up (by omega), hM⟩
   ·replace hM := ifF hM hb35
    refine o_guardY (j := 9) (e := (decide ((a0.Presses.length : Int) ≥ 8))) (want := false) rfl hb35 ?_
    refine o_loadE (v := .agg (Wire.cells a0)) (by decide) rfl (part_agg ty_agg24 (Nat.le_of_ble_eq_true rfl) rfl) ?_
    refine o_guardY (j := 9) (e := (decide ((a0.Presses.length : Int) ≥ 8))) (want := false) rfl hb35 ?_
    refine o_fieldE (cs := [.i a1.Letter, .i a1.Number]) (by decide) ty_fo38_0 rfl ?_
    refine o_guardY (j := 9) (e := (decide ((a0.Presses.length : Int) ≥ 8))) (want := false) rfl hb35 ?_
    refine o_loadE (v := .i a1.Letter) (by decide) rfl (part_one ty_agg3 ty_sc3 rfl) ?_
    refine o_guardY (j := 9) (e := (decide ((a0.Presses.length : Int) ≥ 8))) (want := false) rfl hb35 ?_
    refine o_fieldE (cs := [.i a1.Letter, .i a1.Number]) (by decide) ty_fo38_1 rfl ?_
    refine o_guardY (j := 9) (e := (decide ((a0.Presses.length : Int) ≥ 8))) (want := false) rfl hb35 ?_
    refine o_loadE (v := .i a1.Number) (by decide) rfl (part_one ty_agg3 ty_sc3 rfl) ?_
    refine o_guardY (j := 9) (e := (decide ((a0.Presses.length : Int) ≥ 8))) (want := false) rfl hb35 ?_
    obtain ⟨r36, hr36, hM⟩ := bindE hM
    refine o_call (bs := [.agg (Wire.cells a0), .i a1.Letter, .i a1.Number]) (by decide) rfl rfl ((W_ref11_IsButton hr36).le (.k (.k (.k .nil)))) ?_
    refine o_guardY (j := 9) (e := (decide ((a0.Presses.length : Int) ≥ 8))) (want := false) rfl hb35 ?_
    refine o_not (e := r36) (by decide) rfl ?_
    refine o_pickF (v := .b (!r36)) (e := (decide ((a0.Presses.length : Int) ≥ 8))) (by decide) rfl hb35 rfl ?_
    refine run_nil ?_
    exact w_goto (!r36) (.k (.k (.k .nil))) ⟨(hS.keep [] rfl).up (by omega), hM⟩
end Go.Proofs.Ytneghcnkcfblmaa
