/-
  The code returns what the functions say (printed by gen.py).
  Conditions: none.
-/
import Derived.Test.YtkgldpboiigphaaWkSharesGoal1
set_option linter.all false
namespace Go.Proofs.Ytkgldpboiigphaa
open Go Go.AM Go.Law
set_option linter.unusedVariables false
set_option maxRecDepth 4000
set_option maxHeartbeats 4000000
theorem W_law09_SharesGoal {n : Nat} {a0 : Share} {a1 : Int} {a2 : More} {r : Bool} (hM : law09_SharesGoal n a0 a1 a2 = some r) : PureSat Try.prog 8 [.agg [.sl .no 4 (a0.Clauses.map Clause.cells), .v (.int .i64 a0.Loan)], .v (.int .i64 a1), .agg [.v (.int .i64 a2.Goal), .v (.int .i64 a2.Takings)]] (.v (.bool r)) := by
  refine pure_of_wp mixed Try.func8 rfl (by decide) Try.ntmps8 (by simp) ?pure fun H0 g hf => ?_
  case pure => exact .v _
  rw [frame0_of]
  change wpA _ _ _ _ (Fr.of [(0, .agg [.sl .no 4 (a0.Clauses.map Clause.cells), .v (.int .i64 a0.Loan)]), (1, .v (.int .i64 a1)), (2, .agg [.v (.int .i64 a2.Goal), .v (.int .i64 a2.Takings)])]) H0 g
  have hS := St.start hf
  refine r_seq ?_
  refine r_region (n := 3) rfl ?_
  refine o_box (v := .agg [.sl .no 4 (a0.Clauses.map Clause.cells), .v (.int .i64 a0.Loan)]) (cs := [.sl .no 4 (a0.Clauses.map Clause.cells), .v (.int .i64 a0.Loan)]) hS (by decide) rfl rfl (by omega) fun H hS => ?_
  refine o_box (v := .agg [.v (.int .i64 a2.Goal), .v (.int .i64 a2.Takings)]) (cs := [.v (.int .i64 a2.Goal), .v (.int .i64 a2.Takings)]) hS (by decide) rfl rfl (by omega) fun H hS => ?_
  refine o_assign (v := .v (.bool false)) (by decide) rfl ?_
  refine run_nil ?_
  refine w_next [(1, .v (.int .i64 a1)), (3, .ptr (g + 0) 0), (5, .ptr (g + 1) 0)] (.cons (.refl _) (.cons (.refl _) (.cons (.refl _) .nil))) ?_
  refine r_seq ?_
  refine w_join (J := Bool) (fun j => [(1, .v (.int .i64 a1)), (3, .ptr (g + 0) 0), (5, .ptr (g + 1) 0), (42, .v (.bool j))]) (fun j H' g' => St (· < g) H0 [(g + 1, .cells [.v (.int .i64 a2.Goal), .v (.int .i64 a2.Takings)]), (g + 0, .cells [.sl .no 4 (a0.Clauses.map Clause.cells), .v (.int .i64 a0.Loan)])] H' g' ∧ law09_SharesGoal_j1 n a0 a1 a2 j = some r) ?_ ?_
  · rintro v1 H g1 ⟨hS, hM⟩
    change wpA _ _ _ _ (Fr.of [(1, .v (.int .i64 a1)), (3, .ptr (g + 0) 0), (5, .ptr (g + 1) 0), (42, .v (.bool v1))]) _ _
    replace hS : St (· < g) H0 [(g + 1, .cells [.v (.int .i64 a2.Goal), .v (.int .i64 a2.Takings)]), (g + 0, .cells [.sl .no 4 (a0.Clauses.map Clause.cells), .v (.int .i64 a0.Loan)])] H g1 := hS
    replace hM : law09_SharesGoal_j1 n a0 a1 a2 v1 = some r := hM
    rcases Bool.eq_false_or_eq_true v1 with hb2 | hb2
    · replace hM := ifT hM hb2
      refine w_condT (e := v1) rfl hb2 ?_
      refine r_seq ?_
      refine r_region (n := 2) rfl ?_
      obtain ⟨r3, hr3, hM⟩ := bindE hM
      refine o_call (bs := []) (by decide) rfl rfl ((W_law09_works hr3).le .nil) ?_
      refine o_assign (v := .v (.bool r3)) (by decide) rfl ?_
      refine run_nil ?_
      replace hS := hS.keep (L' := []) [false, false] rfl
      refine w_next [(6, .v (.bool r3))] (.cons (.refl _) .nil) ?_
      refine r_ret ?_
      refine r_then_ret ?_
      refine w_end (x := .v (.bool r3)) (f := fun r => .v (.bool r)) (.inr rfl) ?_ (.refl _) (Option.some.inj hM) hS
      exact (res_one (res_tmp (x := .v (.bool r3)) rfl))
    · replace hM := ifF hM hb2
      refine w_condF (e := v1) rfl hb2 ?_
      refine r_skip ?_
      refine w_next [(1, .v (.int .i64 a1)), (3, .ptr (g + 0) 0), (5, .ptr (g + 1) 0)] (.cons (.refl _) (.cons (.refl _) (.cons (.refl _) .nil))) ?_
      refine r_seq ?_
      refine r_region (n := 8) rfl ?_
      refine o_load (v := .agg [.sl .no 4 (a0.Clauses.map Clause.cells), .v (.int .i64 a0.Loan)]) 1 hS (by decide) rfl rfl .no (part_agg ty_agg24 (Nat.le_of_ble_eq_true rfl) rfl) ?_
      refine o_move (v := .v (.int .i64 a1)) (by decide) rfl ?_
      obtain ⟨r4, hr4, hM⟩ := bindE hM
      refine o_call (bs := [.agg [.sl .no 4 (a0.Clauses.map Clause.cells), .v (.int .i64 a0.Loan)], .v (.int .i64 a1)]) (by decide) rfl rfl ((W_shares_Enough hr4).le (.cons (.refl _) (.cons (.refl _) .nil))) ?_
      refine o_move (v := .tup [.v (.int .i64 r4.1), .v (.int .i64 r4.2)]) (by decide) rfl ?_
      refine o_extract (v := .v (.int .i64 r4.1)) (by decide) rfl rfl ?_
      refine o_extract (v := .v (.int .i64 r4.2)) (by decide) rfl rfl ?_
      refine o_assign (v := .v (.int .i64 r4.1)) (by decide) rfl ?_
      refine o_assign (v := .v (.int .i64 r4.2)) (by decide) rfl ?_
      refine run_nil ?_
      refine w_next [(1, .v (.int .i64 a1)), (3, .ptr (g + 0) 0), (5, .ptr (g + 1) 0), (7, .v (.int .i64 r4.1)), (8, .v (.int .i64 r4.2))] (.cons (.refl _) (.cons (.refl _) (.cons (.refl _) (.cons (.refl _) (.cons (.refl _) .nil))))) ?_
      refine r_seq ?_
      refine r_region (n := 11) rfl ?_
      refine o_load (v := .agg [.sl .no 4 (a0.Clauses.map Clause.cells), .v (.int .i64 a0.Loan)]) 1 hS (by decide) rfl rfl .no (part_agg ty_agg24 (Nat.le_of_ble_eq_true rfl) rfl) ?_
      refine o_move (v := .v (.int .i64 a1)) (by decide) rfl ?_
      refine o_fieldP (by decide) ty_fo56_0 rfl ?_
      refine o_load (v := .v (.int .i64 a2.Goal)) 0 hS (by decide) rfl rfl .no (part_one ty_agg3 ty_sc3 rfl) ?_
      refine o_int (v := .v (.int .i64 (w64 (a1 + a2.Goal)))) (by decide) rfl rfl rfl ?_
      obtain ⟨r5, hr5, hM⟩ := bindE hM
      refine o_call (bs := [.agg [.sl .no 4 (a0.Clauses.map Clause.cells), .v (.int .i64 a0.Loan)], .v (.int .i64 (w64 (a1 + a2.Goal)))]) (by decide) rfl rfl ((W_shares_Enough hr5).le (.cons (.refl _) (.cons (.refl _) .nil))) ?_
      refine o_move (v := .tup [.v (.int .i64 r5.1), .v (.int .i64 r5.2)]) (by decide) rfl ?_
      refine o_extract (v := .v (.int .i64 r5.1)) (by decide) rfl rfl ?_
      refine o_extract (v := .v (.int .i64 r5.2)) (by decide) rfl rfl ?_
      refine o_assign (v := .v (.int .i64 r5.1)) (by decide) rfl ?_
      refine o_assign (v := .v (.int .i64 r5.2)) (by decide) rfl ?_
      refine run_nil ?_
      refine w_next [(1, .v (.int .i64 a1)), (3, .ptr (g + 0) 0), (5, .ptr (g + 1) 0), (7, .v (.int .i64 r4.1)), (8, .v (.int .i64 r4.2)), (9, .v (.int .i64 r5.1)), (10, .v (.int .i64 r5.2))] (.cons (.refl _) (.cons (.refl _) (.cons (.refl _) (.cons (.refl _) (.cons (.refl _) (.cons (.refl _) (.cons (.refl _) .nil))))))) ?_
      refine r_seq ?_
      refine r_region (n := 10) rfl ?_
      refine o_load (v := .agg [.sl .no 4 (a0.Clauses.map Clause.cells), .v (.int .i64 a0.Loan)]) 1 hS (by decide) rfl rfl .no (part_agg ty_agg24 (Nat.le_of_ble_eq_true rfl) rfl) ?_
      refine o_fieldP (by decide) ty_fo56_1 rfl ?_
      refine o_load (v := .v (.int .i64 a2.Takings)) 0 hS (by decide) rfl rfl .no (part_one ty_agg3 ty_sc3 rfl) ?_
      obtain ⟨r6, hr6, hM⟩ := bindE hM
      refine o_call (bs := [.agg [.sl .no 4 (a0.Clauses.map Clause.cells), .v (.int .i64 a0.Loan)], .v (.int .i64 a2.Takings)]) (by decide) rfl rfl ((W_shares_Week hr6).le (.cons (.refl _) (.cons (.refl _) .nil))) ?_
      refine o_move (v := .tup [.agg [.v (.int .i64 r6.1.Operator), .v (.int .i64 r6.1.Owner), .v (.int .i64 r6.1.Repaid)], .v (.int .i64 r6.2)]) (by decide) rfl ?_
      refine o_extract (v := .agg [.v (.int .i64 r6.1.Operator), .v (.int .i64 r6.1.Owner), .v (.int .i64 r6.1.Repaid)]) (by decide) rfl rfl ?_
      refine o_extract (v := .v (.int .i64 r6.2)) (by decide) rfl rfl ?_
      refine o_alloc hS (by decide) ty_zero41 (by omega) fun H hS => ?_
      refine o_store (v := .agg [.v (.int .i64 r6.1.Operator), .v (.int .i64 r6.1.Owner), .v (.int .i64 r6.1.Repaid)]) (ns := [.v (.int .i64 r6.1.Operator), .v (.int .i64 r6.1.Owner), .v (.int .i64 r6.1.Repaid)]) (L' := [(g1 + 8 + 11 + 7, .cells [.v (.int .i64 r6.1.Operator), .v (.int .i64 r6.1.Owner), .v (.int .i64 r6.1.Repaid)]), (g + 1, .cells [.v (.int .i64 a2.Goal), .v (.int .i64 a2.Takings)]), (g + 0, .cells [.sl .no 4 (a0.Clauses.map Clause.cells), .v (.int .i64 a0.Loan)])]) 0 hS rfl rfl .no rfl rfl ty_var41 (Nat.le_of_ble_eq_true rfl) rfl fun H hS => ?_
      refine o_assign (v := .v (.int .i64 r6.2)) (by decide) rfl ?_
      refine run_nil ?_
      refine w_next [(1, .v (.int .i64 a1)), (3, .ptr (g + 0) 0), (5, .ptr (g + 1) 0), (7, .v (.int .i64 r4.1)), (8, .v (.int .i64 r4.2)), (9, .v (.int .i64 r5.1)), (10, .v (.int .i64 r5.2)), (11, .ptr (g1 + 8 + 11 + 7) 0), (12, .v (.int .i64 r6.2))] (.cons (.refl _) (.cons (.refl _) (.cons (.refl _) (.cons (.refl _) (.cons (.refl _) (.cons (.refl _) (.cons (.refl _) (.cons (.refl _) (.cons (.refl _) .nil))))))))) ?_
      refine r_seq ?_
      refine w_join (J := Bool) (fun j => [(1, .v (.int .i64 a1)), (3, .ptr (g + 0) 0), (5, .ptr (g + 1) 0), (7, .v (.int .i64 r4.1)), (8, .v (.int .i64 r4.2)), (11, .ptr (g1 + 8 + 11 + 7) 0), (90, .v (.bool j))]) (fun j H' g' => St (· < g) H0 [(g1 + 8 + 11 + 7, .cells [.v (.int .i64 r6.1.Operator), .v (.int .i64 r6.1.Owner), .v (.int .i64 r6.1.Repaid)]), (g + 1, .cells [.v (.int .i64 a2.Goal), .v (.int .i64 a2.Takings)]), (g + 0, .cells [.sl .no 4 (a0.Clauses.map Clause.cells), .v (.int .i64 a0.Loan)])] H' g' ∧ law09_SharesGoal_j2 n a0 a1 a2 r4 r6 j = some r) ?_ ?_
      · rintro v7 H g2 ⟨hS, hM⟩
        change wpA _ _ _ _ (Fr.of [(1, .v (.int .i64 a1)), (3, .ptr (g + 0) 0), (5, .ptr (g + 1) 0), (7, .v (.int .i64 r4.1)), (8, .v (.int .i64 r4.2)), (11, .ptr (g1 + 8 + 11 + 7) 0), (90, .v (.bool v7))]) _ _
        replace hS : St (· < g) H0 [(g1 + 8 + 11 + 7, .cells [.v (.int .i64 r6.1.Operator), .v (.int .i64 r6.1.Owner), .v (.int .i64 r6.1.Repaid)]), (g + 1, .cells [.v (.int .i64 a2.Goal), .v (.int .i64 a2.Takings)]), (g + 0, .cells [.sl .no 4 (a0.Clauses.map Clause.cells), .v (.int .i64 a0.Loan)])] H g2 := hS
        replace hM : law09_SharesGoal_j2 n a0 a1 a2 r4 r6 v7 = some r := hM
        rcases Bool.eq_false_or_eq_true v7 with hb8 | hb8
        · replace hM := ifT hM hb8
          refine w_condT (e := v7) rfl hb8 ?_
          refine r_seq ?_
          refine r_region (n := 1) rfl ?_
          refine o_assign (v := .v (.bool false)) (by decide) rfl ?_
          refine run_nil ?_
          replace hS := hS.keep (L' := []) [false, false, false] rfl
          refine w_next [(6, .v (.bool false))] (.cons (.refl _) .nil) ?_
          refine r_ret ?_
          refine r_then_ret ?_
          refine w_end (x := .v (.bool false)) (f := fun r => .v (.bool r)) (.inr rfl) ?_ (.refl _) (Option.some.inj hM) hS
          exact (res_one (res_tmp (x := .v (.bool false)) rfl))
        · replace hM := ifF hM hb8
          refine w_condF (e := v7) rfl hb8 ?_
          refine r_skip ?_
          refine w_next [(1, .v (.int .i64 a1)), (3, .ptr (g + 0) 0), (5, .ptr (g + 1) 0), (7, .v (.int .i64 r4.1)), (8, .v (.int .i64 r4.2)), (11, .ptr (g1 + 8 + 11 + 7) 0)] (.cons (.refl _) (.cons (.refl _) (.cons (.refl _) (.cons (.refl _) (.cons (.refl _) (.cons (.refl _) .nil)))))) ?_
          refine r_seq ?_
          refine r_seq ?_
          refine r_region (n := 2) rfl ?_
          refine o_move (v := .v (.int .i64 r4.2)) (by decide) rfl ?_
          refine o_int (v := .v (.bool (r4.2 != 0))) (by decide) rfl rfl rfl ?_
          refine run_nil ?_
          refine w_next [(1, .v (.int .i64 a1)), (3, .ptr (g + 0) 0), (5, .ptr (g + 1) 0), (7, .v (.int .i64 r4.1)), (11, .ptr (g1 + 8 + 11 + 7) 0), (92, .v (.bool (r4.2 != 0)))] (.cons (.refl _) (.cons (.refl _) (.cons (.refl _) (.cons (.refl _) (.cons (.refl _) (.cons (.refl _) .nil)))))) ?_
          rcases Bool.eq_false_or_eq_true (r4.2 != 0) with hb9 | hb9
          · replace hM := ifT hM hb9
            refine w_condT (e := (r4.2 != 0)) rfl hb9 ?_
            refine w_join (J := Bool) (fun j => [(6, .v (.bool j))]) (fun j H' g' => St (· < g) H0 [] H' g' ∧ law09_SharesGoal_j3 j = some r) ?_ ?_
            · rintro v10 H g3 ⟨hS, hM⟩
              change wpA _ _ _ _ (Fr.of [(6, .v (.bool v10))]) _ _
              replace hS : St (· < g) H0 [] H g3 := hS
              replace hM : law09_SharesGoal_j3 v10 = some r := hM
              refine r_ret ?_
              refine r_then_ret ?_
              refine w_end (x := .v (.bool v10)) (f := fun r => .v (.bool r)) (.inr rfl) ?_ (.refl _) (Option.some.inj hM) hS
              exact (res_one (res_tmp (x := .v (.bool v10)) rfl))
            · refine r_region (n := 8) rfl ?_
              refine o_fieldP (by decide) ty_fo41_1 rfl ?_
              refine o_load (v := .v (.int .i64 r6.1.Owner)) 0 hS (by decide) rfl rfl .no (part_one ty_agg3 ty_sc3 rfl) ?_
              refine o_move (v := .v (.int .i64 a1)) (by decide) rfl ?_
              refine o_int (v := .v (.bool (decide (r6.1.Owner < a1)))) (by decide) rfl rfl rfl ?_
              refine o_move (v := .v (.bool (decide (r6.1.Owner < a1)))) (by decide) rfl ?_
              rcases Bool.eq_false_or_eq_true (decide (r6.1.Owner < a1)) with hb11 | hb11
              · replace hM := ifT hM hb11
                refine o_guardY (j := 4) (e := (decide (r6.1.Owner < a1))) (want := true) rfl hb11 ?_
                obtain ⟨r12, hr12, hM⟩ := bindE hM
                refine o_call (bs := []) (by decide) rfl rfl ((W_law09_works hr12).le .nil) ?_
                refine o_pickT (v := .v (.bool r12)) (e := (decide (r6.1.Owner < a1))) (by decide) rfl hb11 rfl ?_
                refine o_assign (v := .v (.bool r12)) (by decide) rfl ?_
                refine run_nil ?_
                exact w_goto r12 (.cons (.refl _) .nil) ⟨(hS.keep [false, false, false] rfl).up (by omega), hM⟩
              · replace hM := ifF hM hb11
                refine o_guardN (j := 4) (e := (decide (r6.1.Owner < a1))) (want := true) (by decide) rfl hb11 ?_
                refine o_pickF (v := .v (.bool false)) (e := (decide (r6.1.Owner < a1))) (by decide) rfl hb11 rfl ?_
                refine o_assign (v := .v (.bool false)) (by decide) rfl ?_
                refine run_nil ?_
                exact w_goto false (.cons (.refl _) .nil) ⟨(hS.keep [false, false, false] rfl).up (by omega), hM⟩
          · replace hM := ifF hM hb9
            refine w_condF (e := (r4.2 != 0)) rfl hb9 ?_
            refine r_skip ?_
            refine w_next [(1, .v (.int .i64 a1)), (3, .ptr (g + 0) 0), (5, .ptr (g + 1) 0), (7, .v (.int .i64 r4.1)), (11, .ptr (g1 + 8 + 11 + 7) 0)] (.cons (.refl _) (.cons (.refl _) (.cons (.refl _) (.cons (.refl _) (.cons (.refl _) .nil))))) ?_
            refine r_seq ?_
            refine r_seq ?_
            refine r_region (n := 3) rfl ?_
            refine o_move (v := .v (.int .i64 r4.1)) (by decide) rfl ?_
            obtain ⟨r13, hr13, hM⟩ := bindE hM
            refine o_call (bs := [.v (.int .i64 r4.1)]) (by decide) rfl rfl ((W_ref09_IsCents hr13).le (.cons (.refl _) .nil)) ?_
            refine o_not (e := r13) (by decide) rfl ?_
            refine run_nil ?_
            refine w_next [(1, .v (.int .i64 a1)), (3, .ptr (g + 0) 0), (5, .ptr (g + 1) 0), (7, .v (.int .i64 r4.1)), (11, .ptr (g1 + 8 + 11 + 7) 0), (102, .v (.bool (!r13)))] (.cons (.refl _) (.cons (.refl _) (.cons (.refl _) (.cons (.refl _) (.cons (.refl _) (.cons (.refl _) .nil)))))) ?_
            rcases Bool.eq_false_or_eq_true (!r13) with hb14 | hb14
            · replace hM := ifT hM hb14
              refine w_condT (e := (!r13)) rfl hb14 ?_
              refine r_seq ?_
              refine r_region (n := 1) rfl ?_
              refine o_assign (v := .v (.bool false)) (by decide) rfl ?_
              refine run_nil ?_
              replace hS := hS.keep (L' := []) [false, false, false] rfl
              refine w_next [(6, .v (.bool false))] (.cons (.refl _) .nil) ?_
              refine r_ret ?_
              refine r_then_ret ?_
              refine w_end (x := .v (.bool false)) (f := fun r => .v (.bool r)) (.inr rfl) ?_ (.refl _) (Option.some.inj hM) hS
              exact (res_one (res_tmp (x := .v (.bool false)) rfl))
            · replace hM := ifF hM hb14
              refine w_condF (e := (!r13)) rfl hb14 ?_
              refine r_skip ?_
              refine w_next [(1, .v (.int .i64 a1)), (3, .ptr (g + 0) 0), (5, .ptr (g + 1) 0), (7, .v (.int .i64 r4.1)), (11, .ptr (g1 + 8 + 11 + 7) 0)] (.cons (.refl _) (.cons (.refl _) (.cons (.refl _) (.cons (.refl _) (.cons (.refl _) .nil))))) ?_
              refine r_seq ?_
              refine r_region (n := 9) rfl ?_
              refine o_load (v := .agg [.sl .no 4 (a0.Clauses.map Clause.cells), .v (.int .i64 a0.Loan)]) 2 hS (by decide) rfl rfl .no (part_agg ty_agg24 (Nat.le_of_ble_eq_true rfl) rfl) ?_
              refine o_move (v := .v (.int .i64 r4.1)) (by decide) rfl ?_
              obtain ⟨r15, hr15, hM⟩ := bindE hM
              refine o_call (bs := [.agg [.sl .no 4 (a0.Clauses.map Clause.cells), .v (.int .i64 a0.Loan)], .v (.int .i64 r4.1)]) (by decide) rfl rfl ((W_shares_Week hr15).le (.cons (.refl _) (.cons (.refl _) .nil))) ?_
              refine o_move (v := .tup [.agg [.v (.int .i64 r15.1.Operator), .v (.int .i64 r15.1.Owner), .v (.int .i64 r15.1.Repaid)], .v (.int .i64 r15.2)]) (by decide) rfl ?_
              refine o_extract (v := .agg [.v (.int .i64 r15.1.Operator), .v (.int .i64 r15.1.Owner), .v (.int .i64 r15.1.Repaid)]) (by decide) rfl rfl ?_
              refine o_extract (v := .v (.int .i64 r15.2)) (by decide) rfl rfl ?_
              refine o_alloc hS (by decide) ty_zero41 (by omega) fun H hS => ?_
              refine o_store (v := .agg [.v (.int .i64 r15.1.Operator), .v (.int .i64 r15.1.Owner), .v (.int .i64 r15.1.Repaid)]) (ns := [.v (.int .i64 r15.1.Operator), .v (.int .i64 r15.1.Owner), .v (.int .i64 r15.1.Repaid)]) (L' := [(g2 + 2 + 3 + 6, .cells [.v (.int .i64 r15.1.Operator), .v (.int .i64 r15.1.Owner), .v (.int .i64 r15.1.Repaid)]), (g1 + 8 + 11 + 7, .cells [.v (.int .i64 r6.1.Operator), .v (.int .i64 r6.1.Owner), .v (.int .i64 r6.1.Repaid)]), (g + 1, .cells [.v (.int .i64 a2.Goal), .v (.int .i64 a2.Takings)]), (g + 0, .cells [.sl .no 4 (a0.Clauses.map Clause.cells), .v (.int .i64 a0.Loan)])]) 0 hS rfl rfl .no rfl rfl ty_var41 (Nat.le_of_ble_eq_true rfl) rfl fun H hS => ?_
              refine o_assign (v := .v (.int .i64 r15.2)) (by decide) rfl ?_
              refine run_nil ?_
              replace hS := hS.keep (L' := [(g2 + 2 + 3 + 6, .cells [.v (.int .i64 r15.1.Operator), .v (.int .i64 r15.1.Owner), .v (.int .i64 r15.1.Repaid)]), (g1 + 8 + 11 + 7, .cells [.v (.int .i64 r6.1.Operator), .v (.int .i64 r6.1.Owner), .v (.int .i64 r6.1.Repaid)]), (g + 1, .cells [.v (.int .i64 a2.Goal), .v (.int .i64 a2.Takings)])]) [true, true, true, false] rfl
              refine w_next [(1, .v (.int .i64 a1)), (5, .ptr (g + 1) 0), (7, .v (.int .i64 r4.1)), (11, .ptr (g1 + 8 + 11 + 7) 0), (13, .ptr (g2 + 2 + 3 + 6) 0), (14, .v (.int .i64 r15.2))] (.cons (.refl _) (.cons (.refl _) (.cons (.refl _) (.cons (.refl _) (.cons (.refl _) (.cons (.refl _) .nil)))))) ?_
              refine w_join (J := Bool) (fun j => [(6, .v (.bool j))]) (fun j H' g' => St (· < g) H0 [] H' g' ∧ law09_SharesGoal_j4 j = some r) ?_ ?_
              · rintro v16 H g4 ⟨hS, hM⟩
                change wpA _ _ _ _ (Fr.of [(6, .v (.bool v16))]) _ _
                replace hS : St (· < g) H0 [] H g4 := hS
                replace hM : law09_SharesGoal_j4 v16 = some r := hM
                refine r_ret ?_
                refine w_end (x := .v (.bool v16)) (f := fun r => .v (.bool r)) (.inr rfl) ?_ (.refl _) (Option.some.inj hM) hS
                exact (res_one (res_tmp (x := .v (.bool v16)) rfl))
              · refine r_region (n := 24) rfl ?_
                refine o_move (v := .v (.int .i64 r15.2)) (by decide) rfl ?_
                refine o_int (v := .v (.bool (r15.2 == 0))) (by decide) rfl rfl rfl ?_
                refine o_move (v := .v (.bool (r15.2 == 0))) (by decide) rfl ?_
                rcases Bool.eq_false_or_eq_true (r15.2 == 0) with hb17 | hb17
                · replace hM := ifT hM hb17
                  refine o_guardY (j := 2) (e := (r15.2 == 0)) (want := true) rfl hb17 ?_
                  refine o_fieldP (by decide) ty_fo41_1 rfl ?_
                  refine o_guardY (j := 2) (e := (r15.2 == 0)) (want := true) rfl hb17 ?_
                  refine o_load (v := .v (.int .i64 r15.1.Owner)) 0 hS (by decide) rfl rfl .no (part_one ty_agg3 ty_sc3 rfl) ?_
                  refine o_guardY (j := 2) (e := (r15.2 == 0)) (want := true) rfl hb17 ?_
                  refine o_move (v := .v (.int .i64 a1)) (by decide) rfl ?_
                  refine o_guardY (j := 2) (e := (r15.2 == 0)) (want := true) rfl hb17 ?_
                  refine o_int (v := .v (.bool (decide (r15.1.Owner ≥ a1)))) (by decide) rfl rfl rfl ?_
                  refine o_pickT (v := .v (.bool (decide (r15.1.Owner ≥ a1)))) (e := (r15.2 == 0)) (by decide) rfl hb17 rfl ?_
                  refine o_move (v := .v (.bool (decide (r15.1.Owner ≥ a1)))) (by decide) rfl ?_
                  rcases Bool.eq_false_or_eq_true (decide (r15.1.Owner ≥ a1)) with hb18 | hb18
                  · replace hM := ifT hM hb18
                    refine o_guardY (j := 8) (e := (decide (r15.1.Owner ≥ a1))) (want := true) rfl hb18 ?_
                    refine o_fieldP (by decide) ty_fo56_1 rfl ?_
                    refine o_guardY (j := 8) (e := (decide (r15.1.Owner ≥ a1))) (want := true) rfl hb18 ?_
                    refine o_load (v := .v (.int .i64 a2.Takings)) 2 hS (by decide) rfl rfl .no (part_one ty_agg3 ty_sc3 rfl) ?_
                    refine o_guardY (j := 8) (e := (decide (r15.1.Owner ≥ a1))) (want := true) rfl hb18 ?_
                    refine o_move (v := .v (.int .i64 r4.1)) (by decide) rfl ?_
                    refine o_guardY (j := 8) (e := (decide (r15.1.Owner ≥ a1))) (want := true) rfl hb18 ?_
                    refine o_int (v := .v (.bool (decide (a2.Takings ≥ r4.1)))) (by decide) rfl rfl rfl ?_
                    refine o_guardY (j := 8) (e := (decide (r15.1.Owner ≥ a1))) (want := true) rfl hb18 ?_
                    refine o_move (v := .v (.bool (decide (a2.Takings ≥ r4.1)))) (by decide) rfl ?_
                    rcases Bool.eq_false_or_eq_true (decide (a2.Takings ≥ r4.1)) with hb19 | hb19
                    · replace hM := ifT hM hb19
                      refine o_guardN (j := 13) (e := (decide (a2.Takings ≥ r4.1))) (want := false) (by decide) rfl hb19 ?_
                      refine o_guardN (j := 13) (e := (decide (a2.Takings ≥ r4.1))) (want := false) (by decide) rfl hb19 ?_
                      refine o_guardN (j := 13) (e := (decide (a2.Takings ≥ r4.1))) (want := false) (by decide) rfl hb19 ?_
                      refine o_guardN (j := 13) (e := (decide (a2.Takings ≥ r4.1))) (want := false) (by decide) rfl hb19 ?_
                      refine o_guardY (j := 8) (e := (decide (r15.1.Owner ≥ a1))) (want := true) rfl hb18 ?_
                      refine o_pickT (v := .v (.bool true)) (e := (decide (a2.Takings ≥ r4.1))) (by decide) rfl hb19 rfl ?_
                      refine o_pickT (v := .v (.bool true)) (e := (decide (r15.1.Owner ≥ a1))) (by decide) rfl hb18 rfl ?_
                      refine o_move (v := .v (.bool true)) (by decide) rfl ?_
                      refine o_guardY (j := 20) (e := true) (want := true) rfl rfl ?_
                      obtain ⟨r20, hr20, hM⟩ := bindE hM
                      refine o_call (bs := []) (by decide) rfl rfl ((W_law09_works hr20).le .nil) ?_
                      refine o_pickT (v := .v (.bool r20)) (e := true) (by decide) rfl rfl rfl ?_
                      refine o_assign (v := .v (.bool r20)) (by decide) rfl ?_
                      refine run_nil ?_
                      exact w_goto r20 (.cons (.refl _) .nil) ⟨(hS.keep [false, false, false] rfl).up (by omega), hM⟩
                    · replace hM := ifF hM hb19
                      refine o_guardY (j := 13) (e := (decide (a2.Takings ≥ r4.1))) (want := false) rfl hb19 ?_
                      refine o_fieldP (by decide) ty_fo41_1 rfl ?_
                      refine o_guardY (j := 13) (e := (decide (a2.Takings ≥ r4.1))) (want := false) rfl hb19 ?_
                      refine o_load (v := .v (.int .i64 r6.1.Owner)) 1 hS (by decide) rfl rfl .no (part_one ty_agg3 ty_sc3 rfl) ?_
                      refine o_guardY (j := 13) (e := (decide (a2.Takings ≥ r4.1))) (want := false) rfl hb19 ?_
                      refine o_move (v := .v (.int .i64 a1)) (by decide) rfl ?_
                      refine o_guardY (j := 13) (e := (decide (a2.Takings ≥ r4.1))) (want := false) rfl hb19 ?_
                      refine o_int (v := .v (.bool (decide (r6.1.Owner < a1)))) (by decide) rfl rfl rfl ?_
                      refine o_guardY (j := 8) (e := (decide (r15.1.Owner ≥ a1))) (want := true) rfl hb18 ?_
                      refine o_pickF (v := .v (.bool (decide (r6.1.Owner < a1)))) (e := (decide (a2.Takings ≥ r4.1))) (by decide) rfl hb19 rfl ?_
                      refine o_pickT (v := .v (.bool (decide (r6.1.Owner < a1)))) (e := (decide (r15.1.Owner ≥ a1))) (by decide) rfl hb18 rfl ?_
                      refine o_move (v := .v (.bool (decide (r6.1.Owner < a1)))) (by decide) rfl ?_
                      rcases Bool.eq_false_or_eq_true (decide (r6.1.Owner < a1)) with hb21 | hb21
                      · replace hM := ifT hM hb21
                        refine o_guardY (j := 20) (e := (decide (r6.1.Owner < a1))) (want := true) rfl hb21 ?_
                        obtain ⟨r22, hr22, hM⟩ := bindE hM
                        refine o_call (bs := []) (by decide) rfl rfl ((W_law09_works hr22).le .nil) ?_
                        refine o_pickT (v := .v (.bool r22)) (e := (decide (r6.1.Owner < a1))) (by decide) rfl hb21 rfl ?_
                        refine o_assign (v := .v (.bool r22)) (by decide) rfl ?_
                        refine run_nil ?_
                        exact w_goto r22 (.cons (.refl _) .nil) ⟨(hS.keep [false, false, false] rfl).up (by omega), hM⟩
                      · replace hM := ifF hM hb21
                        refine o_guardN (j := 20) (e := (decide (r6.1.Owner < a1))) (want := true) (by decide) rfl hb21 ?_
                        refine o_pickF (v := .v (.bool false)) (e := (decide (r6.1.Owner < a1))) (by decide) rfl hb21 rfl ?_
                        refine o_assign (v := .v (.bool false)) (by decide) rfl ?_
                        refine run_nil ?_
                        exact w_goto false (.cons (.refl _) .nil) ⟨(hS.keep [false, false, false] rfl).up (by omega), hM⟩
                  · replace hM := ifF hM hb18
                    refine o_guardN (j := 8) (e := (decide (r15.1.Owner ≥ a1))) (want := true) (by decide) rfl hb18 ?_
                    refine o_guardN (j := 8) (e := (decide (r15.1.Owner ≥ a1))) (want := true) (by decide) rfl hb18 ?_
                    refine o_guardN (j := 8) (e := (decide (r15.1.Owner ≥ a1))) (want := true) (by decide) rfl hb18 ?_
                    refine o_guardN (j := 8) (e := (decide (r15.1.Owner ≥ a1))) (want := true) (by decide) rfl hb18 ?_
                    refine o_guardN (j := 8) (e := (decide (r15.1.Owner ≥ a1))) (want := true) (by decide) rfl hb18 ?_
                    refine o_guardU (j := 13) (by decide) rfl ?_
                    refine o_guardU (j := 13) (by decide) rfl ?_
                    refine o_guardU (j := 13) (by decide) rfl ?_
                    refine o_guardU (j := 13) (by decide) rfl ?_
                    refine o_guardN (j := 8) (e := (decide (r15.1.Owner ≥ a1))) (want := true) (by decide) rfl hb18 ?_
                    refine o_pickF (v := .v (.bool false)) (e := (decide (r15.1.Owner ≥ a1))) (by decide) rfl hb18 rfl ?_
                    refine o_move (v := .v (.bool false)) (by decide) rfl ?_
                    refine o_guardN (j := 20) (e := false) (want := true) (by decide) rfl rfl ?_
                    refine o_pickF (v := .v (.bool false)) (e := false) (by decide) rfl rfl rfl ?_
                    refine o_assign (v := .v (.bool false)) (by decide) rfl ?_
                    refine run_nil ?_
                    exact w_goto false (.cons (.refl _) .nil) ⟨(hS.keep [false, false, false] rfl).up (by omega), hM⟩
                · replace hM := ifF hM hb17
                  refine o_guardN (j := 2) (e := (r15.2 == 0)) (want := true) (by decide) rfl hb17 ?_
                  refine o_guardN (j := 2) (e := (r15.2 == 0)) (want := true) (by decide) rfl hb17 ?_
                  refine o_guardN (j := 2) (e := (r15.2 == 0)) (want := true) (by decide) rfl hb17 ?_
                  refine o_guardN (j := 2) (e := (r15.2 == 0)) (want := true) (by decide) rfl hb17 ?_
                  refine o_pickF (v := .v (.bool false)) (e := (r15.2 == 0)) (by decide) rfl hb17 rfl ?_
                  refine o_move (v := .v (.bool false)) (by decide) rfl ?_
                  refine o_guardN (j := 8) (e := false) (want := true) (by decide) rfl rfl ?_
                  refine o_guardN (j := 8) (e := false) (want := true) (by decide) rfl rfl ?_
                  refine o_guardN (j := 8) (e := false) (want := true) (by decide) rfl rfl ?_
                  refine o_guardN (j := 8) (e := false) (want := true) (by decide) rfl rfl ?_
                  refine o_guardN (j := 8) (e := false) (want := true) (by decide) rfl rfl ?_
                  refine o_guardU (j := 13) (by decide) rfl ?_
                  refine o_guardU (j := 13) (by decide) rfl ?_
                  refine o_guardU (j := 13) (by decide) rfl ?_
                  refine o_guardU (j := 13) (by decide) rfl ?_
                  refine o_guardN (j := 8) (e := false) (want := true) (by decide) rfl rfl ?_
                  refine o_pickF (v := .v (.bool false)) (e := false) (by decide) rfl rfl rfl ?_
                  refine o_move (v := .v (.bool false)) (by decide) rfl ?_
                  refine o_guardN (j := 20) (e := false) (want := true) (by decide) rfl rfl ?_
                  refine o_pickF (v := .v (.bool false)) (e := false) (by decide) rfl rfl rfl ?_
                  refine o_assign (v := .v (.bool false)) (by decide) rfl ?_
                  refine run_nil ?_
                  exact w_goto false (.cons (.refl _) .nil) ⟨(hS.keep [false, false, false] rfl).up (by omega), hM⟩
      · refine r_region (n := 25) rfl ?_
        refine o_move (v := .v (.int .i64 r4.2)) (by decide) rfl ?_
        obtain ⟨r23, hr23, hM⟩ := bindE hM
        refine o_call (bs := [.v (.int .i64 r4.2)]) (by decide) rfl rfl ((W_law09_isKnown hr23).le (.cons (.refl _) .nil)) ?_
        refine o_not (e := r23) (by decide) rfl ?_
        refine o_move (v := .v (.bool (!r23))) (by decide) rfl ?_
        rcases Bool.eq_false_or_eq_true (!r23) with hb24 | hb24
        · replace hM := ifT hM hb24
          refine o_guardN (j := 3) (e := (!r23)) (want := false) (by decide) rfl hb24 ?_
          refine o_guardN (j := 3) (e := (!r23)) (want := false) (by decide) rfl hb24 ?_
          refine o_guardN (j := 3) (e := (!r23)) (want := false) (by decide) rfl hb24 ?_
          refine o_pickT (v := .v (.bool true)) (e := (!r23)) (by decide) rfl hb24 rfl ?_
          refine o_move (v := .v (.bool true)) (by decide) rfl ?_
          refine o_guardN (j := 8) (e := true) (want := false) (by decide) rfl rfl ?_
          refine o_guardN (j := 8) (e := true) (want := false) (by decide) rfl rfl ?_
          refine o_pickT (v := .v (.bool true)) (e := true) (by decide) rfl rfl rfl ?_
          refine o_move (v := .v (.bool true)) (by decide) rfl ?_
          refine o_guardN (j := 12) (e := true) (want := false) (by decide) rfl rfl ?_
          refine o_guardN (j := 12) (e := true) (want := false) (by decide) rfl rfl ?_
          refine o_guardN (j := 12) (e := true) (want := false) (by decide) rfl rfl ?_
          refine o_guardU (j := 15) (by decide) rfl ?_
          refine o_guardU (j := 15) (by decide) rfl ?_
          refine o_guardU (j := 15) (by decide) rfl ?_
          refine o_guardU (j := 18) (by decide) rfl ?_
          refine o_guardU (j := 18) (by decide) rfl ?_
          refine o_guardU (j := 18) (by decide) rfl ?_
          refine o_guardU (j := 15) (by decide) rfl ?_
          refine o_guardN (j := 12) (e := true) (want := false) (by decide) rfl rfl ?_
          refine o_pickT (v := .v (.bool true)) (e := true) (by decide) rfl rfl rfl ?_
          refine run_nil ?_
          exact w_goto true (.cons (.refl _) (.cons (.refl _) (.cons (.refl _) (.cons (.refl _) (.cons (.refl _) (.cons (.refl _) (.cons (.refl _) .nil))))))) ⟨(hS.keep [true, true, true] rfl).up (by omega), hM⟩
        · replace hM := ifF hM hb24
          refine o_guardY (j := 3) (e := (!r23)) (want := false) rfl hb24 ?_
          refine o_move (v := .v (.int .i64 r5.2)) (by decide) rfl ?_
          refine o_guardY (j := 3) (e := (!r23)) (want := false) rfl hb24 ?_
          obtain ⟨r25, hr25, hM⟩ := bindE hM
          refine o_call (bs := [.v (.int .i64 r5.2)]) (by decide) rfl rfl ((W_law09_isKnown hr25).le (.cons (.refl _) .nil)) ?_
          refine o_guardY (j := 3) (e := (!r23)) (want := false) rfl hb24 ?_
          refine o_not (e := r25) (by decide) rfl ?_
          refine o_pickF (v := .v (.bool (!r25))) (e := (!r23)) (by decide) rfl hb24 rfl ?_
          refine o_move (v := .v (.bool (!r25))) (by decide) rfl ?_
          rcases Bool.eq_false_or_eq_true (!r25) with hb26 | hb26
          · replace hM := ifT hM hb26
            refine o_guardN (j := 8) (e := (!r25)) (want := false) (by decide) rfl hb26 ?_
            refine o_guardN (j := 8) (e := (!r25)) (want := false) (by decide) rfl hb26 ?_
            refine o_pickT (v := .v (.bool true)) (e := (!r25)) (by decide) rfl hb26 rfl ?_
            refine o_move (v := .v (.bool true)) (by decide) rfl ?_
            refine o_guardN (j := 12) (e := true) (want := false) (by decide) rfl rfl ?_
            refine o_guardN (j := 12) (e := true) (want := false) (by decide) rfl rfl ?_
            refine o_guardN (j := 12) (e := true) (want := false) (by decide) rfl rfl ?_
            refine o_guardU (j := 15) (by decide) rfl ?_
            refine o_guardU (j := 15) (by decide) rfl ?_
            refine o_guardU (j := 15) (by decide) rfl ?_
            refine o_guardU (j := 18) (by decide) rfl ?_
            refine o_guardU (j := 18) (by decide) rfl ?_
            refine o_guardU (j := 18) (by decide) rfl ?_
            refine o_guardU (j := 15) (by decide) rfl ?_
            refine o_guardN (j := 12) (e := true) (want := false) (by decide) rfl rfl ?_
            refine o_pickT (v := .v (.bool true)) (e := true) (by decide) rfl rfl rfl ?_
            refine run_nil ?_
            exact w_goto true (.cons (.refl _) (.cons (.refl _) (.cons (.refl _) (.cons (.refl _) (.cons (.refl _) (.cons (.refl _) (.cons (.refl _) .nil))))))) ⟨(hS.keep [true, true, true] rfl).up (by omega), hM⟩
          · replace hM := ifF hM hb26
            refine o_guardY (j := 8) (e := (!r25)) (want := false) rfl hb26 ?_
            refine o_move (v := .v (.int .i64 r6.2)) (by decide) rfl ?_
            refine o_guardY (j := 8) (e := (!r25)) (want := false) rfl hb26 ?_
            refine o_int (v := .v (.bool (r6.2 != 0))) (by decide) rfl rfl rfl ?_
            refine o_pickF (v := .v (.bool (r6.2 != 0))) (e := (!r25)) (by decide) rfl hb26 rfl ?_
            refine o_move (v := .v (.bool (r6.2 != 0))) (by decide) rfl ?_
            rcases Bool.eq_false_or_eq_true (r6.2 != 0) with hb27 | hb27
            · replace hM := ifT hM hb27
              refine o_guardN (j := 12) (e := (r6.2 != 0)) (want := false) (by decide) rfl hb27 ?_
              refine o_guardN (j := 12) (e := (r6.2 != 0)) (want := false) (by decide) rfl hb27 ?_
              refine o_guardN (j := 12) (e := (r6.2 != 0)) (want := false) (by decide) rfl hb27 ?_
              refine o_guardU (j := 15) (by decide) rfl ?_
              refine o_guardU (j := 15) (by decide) rfl ?_
              refine o_guardU (j := 15) (by decide) rfl ?_
              refine o_guardU (j := 18) (by decide) rfl ?_
              refine o_guardU (j := 18) (by decide) rfl ?_
              refine o_guardU (j := 18) (by decide) rfl ?_
              refine o_guardU (j := 15) (by decide) rfl ?_
              refine o_guardN (j := 12) (e := (r6.2 != 0)) (want := false) (by decide) rfl hb27 ?_
              refine o_pickT (v := .v (.bool true)) (e := (r6.2 != 0)) (by decide) rfl hb27 rfl ?_
              refine run_nil ?_
              exact w_goto true (.cons (.refl _) (.cons (.refl _) (.cons (.refl _) (.cons (.refl _) (.cons (.refl _) (.cons (.refl _) (.cons (.refl _) .nil))))))) ⟨(hS.keep [true, true, true] rfl).up (by omega), hM⟩
            · replace hM := ifF hM hb27
              refine o_guardY (j := 12) (e := (r6.2 != 0)) (want := false) rfl hb27 ?_
              refine o_move (v := .v (.int .i64 r5.2)) (by decide) rfl ?_
              refine o_guardY (j := 12) (e := (r6.2 != 0)) (want := false) rfl hb27 ?_
              refine o_int (v := .v (.bool (r5.2 == 0))) (by decide) rfl rfl rfl ?_
              refine o_guardY (j := 12) (e := (r6.2 != 0)) (want := false) rfl hb27 ?_
              refine o_move (v := .v (.bool (r5.2 == 0))) (by decide) rfl ?_
              rcases Bool.eq_false_or_eq_true (r5.2 == 0) with hb28 | hb28
              · replace hM := ifT hM hb28
                refine o_guardY (j := 15) (e := (r5.2 == 0)) (want := true) rfl hb28 ?_
                refine o_move (v := .v (.int .i64 r4.2)) (by decide) rfl ?_
                refine o_guardY (j := 15) (e := (r5.2 == 0)) (want := true) rfl hb28 ?_
                refine o_int (v := .v (.bool (r4.2 != 0))) (by decide) rfl rfl rfl ?_
                refine o_guardY (j := 15) (e := (r5.2 == 0)) (want := true) rfl hb28 ?_
                refine o_move (v := .v (.bool (r4.2 != 0))) (by decide) rfl ?_
                rcases Bool.eq_false_or_eq_true (r4.2 != 0) with hb29 | hb29
                · replace hM := ifT hM hb29
                  refine o_guardN (j := 18) (e := (r4.2 != 0)) (want := false) (by decide) rfl hb29 ?_
                  refine o_guardN (j := 18) (e := (r4.2 != 0)) (want := false) (by decide) rfl hb29 ?_
                  refine o_guardN (j := 18) (e := (r4.2 != 0)) (want := false) (by decide) rfl hb29 ?_
                  refine o_guardY (j := 15) (e := (r5.2 == 0)) (want := true) rfl hb28 ?_
                  refine o_pickT (v := .v (.bool true)) (e := (r4.2 != 0)) (by decide) rfl hb29 rfl ?_
                  refine o_guardY (j := 12) (e := (r6.2 != 0)) (want := false) rfl hb27 ?_
                  refine o_pickT (v := .v (.bool true)) (e := (r5.2 == 0)) (by decide) rfl hb28 rfl ?_
                  refine o_pickF (v := .v (.bool true)) (e := (r6.2 != 0)) (by decide) rfl hb27 rfl ?_
                  refine run_nil ?_
                  exact w_goto true (.cons (.refl _) (.cons (.refl _) (.cons (.refl _) (.cons (.refl _) (.cons (.refl _) (.cons (.refl _) (.cons (.refl _) .nil))))))) ⟨(hS.keep [true, true, true] rfl).up (by omega), hM⟩
                · replace hM := ifF hM hb29
                  refine o_guardY (j := 18) (e := (r4.2 != 0)) (want := false) rfl hb29 ?_
                  refine o_move (v := .v (.int .i64 r5.1)) (by decide) rfl ?_
                  refine o_guardY (j := 18) (e := (r4.2 != 0)) (want := false) rfl hb29 ?_
                  refine o_move (v := .v (.int .i64 r4.1)) (by decide) rfl ?_
                  refine o_guardY (j := 18) (e := (r4.2 != 0)) (want := false) rfl hb29 ?_
                  refine o_int (v := .v (.bool (decide (r5.1 < r4.1)))) (by decide) rfl rfl rfl ?_
                  refine o_guardY (j := 15) (e := (r5.2 == 0)) (want := true) rfl hb28 ?_
                  refine o_pickF (v := .v (.bool (decide (r5.1 < r4.1)))) (e := (r4.2 != 0)) (by decide) rfl hb29 rfl ?_
                  refine o_guardY (j := 12) (e := (r6.2 != 0)) (want := false) rfl hb27 ?_
                  refine o_pickT (v := .v (.bool (decide (r5.1 < r4.1)))) (e := (r5.2 == 0)) (by decide) rfl hb28 rfl ?_
                  refine o_pickF (v := .v (.bool (decide (r5.1 < r4.1)))) (e := (r6.2 != 0)) (by decide) rfl hb27 rfl ?_
                  refine run_nil ?_
                  exact w_goto (decide (r5.1 < r4.1)) (.cons (.refl _) (.cons (.refl _) (.cons (.refl _) (.cons (.refl _) (.cons (.refl _) (.cons (.refl _) (.cons (.refl _) .nil))))))) ⟨(hS.keep [true, true, true] rfl).up (by omega), hM⟩
              · replace hM := ifF hM hb28
                refine o_guardN (j := 15) (e := (r5.2 == 0)) (want := true) (by decide) rfl hb28 ?_
                refine o_guardN (j := 15) (e := (r5.2 == 0)) (want := true) (by decide) rfl hb28 ?_
                refine o_guardN (j := 15) (e := (r5.2 == 0)) (want := true) (by decide) rfl hb28 ?_
                refine o_guardU (j := 18) (by decide) rfl ?_
                refine o_guardU (j := 18) (by decide) rfl ?_
                refine o_guardU (j := 18) (by decide) rfl ?_
                refine o_guardN (j := 15) (e := (r5.2 == 0)) (want := true) (by decide) rfl hb28 ?_
                refine o_guardY (j := 12) (e := (r6.2 != 0)) (want := false) rfl hb27 ?_
                refine o_pickF (v := .v (.bool false)) (e := (r5.2 == 0)) (by decide) rfl hb28 rfl ?_
                refine o_pickF (v := .v (.bool false)) (e := (r6.2 != 0)) (by decide) rfl hb27 rfl ?_
                refine run_nil ?_
                exact w_goto false (.cons (.refl _) (.cons (.refl _) (.cons (.refl _) (.cons (.refl _) (.cons (.refl _) (.cons (.refl _) (.cons (.refl _) .nil))))))) ⟨(hS.keep [true, true, true] rfl).up (by omega), hM⟩
  · refine r_region (n := 28) rfl ?_
    refine o_load (v := .agg [.sl .no 4 (a0.Clauses.map Clause.cells), .v (.int .i64 a0.Loan)]) 1 hS (by decide) rfl rfl .no (part_agg ty_agg24 (Nat.le_of_ble_eq_true rfl) rfl) ?_
    obtain ⟨r30, hr30, hM⟩ := bindE hM
    refine o_call (bs := [.agg [.sl .no 4 (a0.Clauses.map Clause.cells), .v (.int .i64 a0.Loan)]]) (by decide) rfl rfl ((W_law09_isShare hr30).le (.cons (.refl _) .nil)) ?_
    refine o_not (e := r30) (by decide) rfl ?_
    refine o_move (v := .v (.bool (!r30))) (by decide) rfl ?_
    rcases Bool.eq_false_or_eq_true (!r30) with hb31 | hb31
    · replace hM := ifT hM hb31
      refine o_guardN (j := 3) (e := (!r30)) (want := false) (by decide) rfl hb31 ?_
      refine o_guardN (j := 3) (e := (!r30)) (want := false) (by decide) rfl hb31 ?_
      refine o_guardN (j := 3) (e := (!r30)) (want := false) (by decide) rfl hb31 ?_
      refine o_pickT (v := .v (.bool true)) (e := (!r30)) (by decide) rfl hb31 rfl ?_
      refine o_move (v := .v (.bool true)) (by decide) rfl ?_
      refine o_guardN (j := 8) (e := true) (want := false) (by decide) rfl rfl ?_
      refine o_guardN (j := 8) (e := true) (want := false) (by decide) rfl rfl ?_
      refine o_guardN (j := 8) (e := true) (want := false) (by decide) rfl rfl ?_
      refine o_guardN (j := 8) (e := true) (want := false) (by decide) rfl rfl ?_
      refine o_pickT (v := .v (.bool true)) (e := true) (by decide) rfl rfl rfl ?_
      refine o_move (v := .v (.bool true)) (by decide) rfl ?_
      refine o_guardN (j := 14) (e := true) (want := false) (by decide) rfl rfl ?_
      refine o_guardN (j := 14) (e := true) (want := false) (by decide) rfl rfl ?_
      refine o_guardN (j := 14) (e := true) (want := false) (by decide) rfl rfl ?_
      refine o_guardN (j := 14) (e := true) (want := false) (by decide) rfl rfl ?_
      refine o_guardN (j := 14) (e := true) (want := false) (by decide) rfl rfl ?_
      refine o_guardN (j := 14) (e := true) (want := false) (by decide) rfl rfl ?_
      refine o_pickT (v := .v (.bool true)) (e := true) (by decide) rfl rfl rfl ?_
      refine o_move (v := .v (.bool true)) (by decide) rfl ?_
      refine o_guardN (j := 22) (e := true) (want := false) (by decide) rfl rfl ?_
      refine o_guardN (j := 22) (e := true) (want := false) (by decide) rfl rfl ?_
      refine o_guardN (j := 22) (e := true) (want := false) (by decide) rfl rfl ?_
      refine o_guardN (j := 22) (e := true) (want := false) (by decide) rfl rfl ?_
      refine o_pickT (v := .v (.bool true)) (e := true) (by decide) rfl rfl rfl ?_
      refine run_nil ?_
      exact w_goto true (.cons (.refl _) (.cons (.refl _) (.cons (.refl _) (.cons (.refl _) .nil)))) ⟨(hS.keep [true, true] rfl).up (by omega), hM⟩
    · replace hM := ifF hM hb31
      refine o_guardY (j := 3) (e := (!r30)) (want := false) rfl hb31 ?_
      refine o_move (v := .v (.int .i64 a1)) (by decide) rfl ?_
      refine o_guardY (j := 3) (e := (!r30)) (want := false) rfl hb31 ?_
      obtain ⟨r32, hr32, hM⟩ := bindE hM
      refine o_call (bs := [.v (.int .i64 a1)]) (by decide) rfl rfl ((W_ref09_IsCents hr32).le (.cons (.refl _) .nil)) ?_
      refine o_guardY (j := 3) (e := (!r30)) (want := false) rfl hb31 ?_
      refine o_not (e := r32) (by decide) rfl ?_
      refine o_pickF (v := .v (.bool (!r32))) (e := (!r30)) (by decide) rfl hb31 rfl ?_
      refine o_move (v := .v (.bool (!r32))) (by decide) rfl ?_
      rcases Bool.eq_false_or_eq_true (!r32) with hb33 | hb33
      · replace hM := ifT hM hb33
        refine o_guardN (j := 8) (e := (!r32)) (want := false) (by decide) rfl hb33 ?_
        refine o_guardN (j := 8) (e := (!r32)) (want := false) (by decide) rfl hb33 ?_
        refine o_guardN (j := 8) (e := (!r32)) (want := false) (by decide) rfl hb33 ?_
        refine o_guardN (j := 8) (e := (!r32)) (want := false) (by decide) rfl hb33 ?_
        refine o_pickT (v := .v (.bool true)) (e := (!r32)) (by decide) rfl hb33 rfl ?_
        refine o_move (v := .v (.bool true)) (by decide) rfl ?_
        refine o_guardN (j := 14) (e := true) (want := false) (by decide) rfl rfl ?_
        refine o_guardN (j := 14) (e := true) (want := false) (by decide) rfl rfl ?_
        refine o_guardN (j := 14) (e := true) (want := false) (by decide) rfl rfl ?_
        refine o_guardN (j := 14) (e := true) (want := false) (by decide) rfl rfl ?_
        refine o_guardN (j := 14) (e := true) (want := false) (by decide) rfl rfl ?_
        refine o_guardN (j := 14) (e := true) (want := false) (by decide) rfl rfl ?_
        refine o_pickT (v := .v (.bool true)) (e := true) (by decide) rfl rfl rfl ?_
        refine o_move (v := .v (.bool true)) (by decide) rfl ?_
        refine o_guardN (j := 22) (e := true) (want := false) (by decide) rfl rfl ?_
        refine o_guardN (j := 22) (e := true) (want := false) (by decide) rfl rfl ?_
        refine o_guardN (j := 22) (e := true) (want := false) (by decide) rfl rfl ?_
        refine o_guardN (j := 22) (e := true) (want := false) (by decide) rfl rfl ?_
        refine o_pickT (v := .v (.bool true)) (e := true) (by decide) rfl rfl rfl ?_
        refine run_nil ?_
        exact w_goto true (.cons (.refl _) (.cons (.refl _) (.cons (.refl _) (.cons (.refl _) .nil)))) ⟨(hS.keep [true, true] rfl).up (by omega), hM⟩
      · replace hM := ifF hM hb33
        refine o_guardY (j := 8) (e := (!r32)) (want := false) rfl hb33 ?_
        refine o_fieldP (by decide) ty_fo56_0 rfl ?_
        refine o_guardY (j := 8) (e := (!r32)) (want := false) rfl hb33 ?_
        refine o_load (v := .v (.int .i64 a2.Goal)) 0 hS (by decide) rfl rfl .no (part_one ty_agg3 ty_sc3 rfl) ?_
        refine o_guardY (j := 8) (e := (!r32)) (want := false) rfl hb33 ?_
        obtain ⟨r34, hr34, hM⟩ := bindE hM
        refine o_call (bs := [.v (.int .i64 a2.Goal)]) (by decide) rfl rfl ((W_ref09_IsCents hr34).le (.cons (.refl _) .nil)) ?_
        refine o_guardY (j := 8) (e := (!r32)) (want := false) rfl hb33 ?_
        refine o_not (e := r34) (by decide) rfl ?_
        refine o_pickF (v := .v (.bool (!r34))) (e := (!r32)) (by decide) rfl hb33 rfl ?_
        refine o_move (v := .v (.bool (!r34))) (by decide) rfl ?_
        rcases Bool.eq_false_or_eq_true (!r34) with hb35 | hb35
        · replace hM := ifT hM hb35
          refine o_guardN (j := 14) (e := (!r34)) (want := false) (by decide) rfl hb35 ?_
          refine o_guardN (j := 14) (e := (!r34)) (want := false) (by decide) rfl hb35 ?_
          refine o_guardN (j := 14) (e := (!r34)) (want := false) (by decide) rfl hb35 ?_
          refine o_guardN (j := 14) (e := (!r34)) (want := false) (by decide) rfl hb35 ?_
          refine o_guardN (j := 14) (e := (!r34)) (want := false) (by decide) rfl hb35 ?_
          refine o_guardN (j := 14) (e := (!r34)) (want := false) (by decide) rfl hb35 ?_
          refine o_pickT (v := .v (.bool true)) (e := (!r34)) (by decide) rfl hb35 rfl ?_
          refine o_move (v := .v (.bool true)) (by decide) rfl ?_
          refine o_guardN (j := 22) (e := true) (want := false) (by decide) rfl rfl ?_
          refine o_guardN (j := 22) (e := true) (want := false) (by decide) rfl rfl ?_
          refine o_guardN (j := 22) (e := true) (want := false) (by decide) rfl rfl ?_
          refine o_guardN (j := 22) (e := true) (want := false) (by decide) rfl rfl ?_
          refine o_pickT (v := .v (.bool true)) (e := true) (by decide) rfl rfl rfl ?_
          refine run_nil ?_
          exact w_goto true (.cons (.refl _) (.cons (.refl _) (.cons (.refl _) (.cons (.refl _) .nil)))) ⟨(hS.keep [true, true] rfl).up (by omega), hM⟩
        · replace hM := ifF hM hb35
          refine o_guardY (j := 14) (e := (!r34)) (want := false) rfl hb35 ?_
          refine o_move (v := .v (.int .i64 a1)) (by decide) rfl ?_
          refine o_guardY (j := 14) (e := (!r34)) (want := false) rfl hb35 ?_
          refine o_fieldP (by decide) ty_fo56_0 rfl ?_
          refine o_guardY (j := 14) (e := (!r34)) (want := false) rfl hb35 ?_
          refine o_load (v := .v (.int .i64 a2.Goal)) 0 hS (by decide) rfl rfl .no (part_one ty_agg3 ty_sc3 rfl) ?_
          refine o_guardY (j := 14) (e := (!r34)) (want := false) rfl hb35 ?_
          refine o_int (v := .v (.int .i64 (w64 (a1 + a2.Goal)))) (by decide) rfl rfl rfl ?_
          refine o_guardY (j := 14) (e := (!r34)) (want := false) rfl hb35 ?_
          obtain ⟨r36, hr36, hM⟩ := bindE hM
          refine o_call (bs := [.v (.int .i64 (w64 (a1 + a2.Goal)))]) (by decide) rfl rfl ((W_ref09_IsCents hr36).le (.cons (.refl _) .nil)) ?_
          refine o_guardY (j := 14) (e := (!r34)) (want := false) rfl hb35 ?_
          refine o_not (e := r36) (by decide) rfl ?_
          refine o_pickF (v := .v (.bool (!r36))) (e := (!r34)) (by decide) rfl hb35 rfl ?_
          refine o_move (v := .v (.bool (!r36))) (by decide) rfl ?_
          rcases Bool.eq_false_or_eq_true (!r36) with hb37 | hb37
          · replace hM := ifT hM hb37
            refine o_guardN (j := 22) (e := (!r36)) (want := false) (by decide) rfl hb37 ?_
            refine o_guardN (j := 22) (e := (!r36)) (want := false) (by decide) rfl hb37 ?_
            refine o_guardN (j := 22) (e := (!r36)) (want := false) (by decide) rfl hb37 ?_
            refine o_guardN (j := 22) (e := (!r36)) (want := false) (by decide) rfl hb37 ?_
            refine o_pickT (v := .v (.bool true)) (e := (!r36)) (by decide) rfl hb37 rfl ?_
            refine run_nil ?_
            exact w_goto true (.cons (.refl _) (.cons (.refl _) (.cons (.refl _) (.cons (.refl _) .nil)))) ⟨(hS.keep [true, true] rfl).up (by omega), hM⟩
          · replace hM := ifF hM hb37
            refine o_guardY (j := 22) (e := (!r36)) (want := false) rfl hb37 ?_
            refine o_fieldP (by decide) ty_fo56_1 rfl ?_
            refine o_guardY (j := 22) (e := (!r36)) (want := false) rfl hb37 ?_
            refine o_load (v := .v (.int .i64 a2.Takings)) 0 hS (by decide) rfl rfl .no (part_one ty_agg3 ty_sc3 rfl) ?_
            refine o_guardY (j := 22) (e := (!r36)) (want := false) rfl hb37 ?_
            obtain ⟨r38, hr38, hM⟩ := bindE hM
            refine o_call (bs := [.v (.int .i64 a2.Takings)]) (by decide) rfl rfl ((W_ref09_IsCents hr38).le (.cons (.refl _) .nil)) ?_
            refine o_guardY (j := 22) (e := (!r36)) (want := false) rfl hb37 ?_
            refine o_not (e := r38) (by decide) rfl ?_
            refine o_pickF (v := .v (.bool (!r38))) (e := (!r36)) (by decide) rfl hb37 rfl ?_
            refine run_nil ?_
            exact w_goto (!r38) (.cons (.refl _) (.cons (.refl _) (.cons (.refl _) (.cons (.refl _) .nil)))) ⟨(hS.keep [true, true] rfl).up (by omega), hM⟩
end Go.Proofs.Ytkgldpboiigphaa
