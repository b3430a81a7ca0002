/-
  The code returns what the functions say (printed by gen.py).
  Conditions: none.
-/
import Derived.Test.YtkgldpboiigphaaWkSharesGreater1
set_option linter.all false
namespace Go.Proofs.Ytkgldpboiigphaa
open Go Go.AM Go.Law
set_option linter.unusedVariables false
set_option maxRecDepth 4000
set_option maxHeartbeats 4000000
theorem W_law09_SharesGreater {n : Nat} {a0 : Share} {a1 : Int} {a2 : Int} {r : Bool} (hM : law09_SharesGreater n a0 a1 a2 = some r) : PureSat Try.prog 4 [.agg [.sl .no 4 (a0.Clauses.map Clause.cells), .v (.int .i64 a0.Loan)], .v (.int .i64 a1), .v (.int .i64 a2)] (.v (.bool r)) := by
  refine pure_of_wp mixed Try.func4 rfl (by decide) Try.ntmps4 (by simp) ?pure fun H0 g hf => ?_
  case pure => exact .v _
  rw [frame0_of]
  change wpA _ _ _ _ (Fr.of [(0, .agg [.sl .no 4 (a0.Clauses.map Clause.cells), .v (.int .i64 a0.Loan)]), (1, .v (.int .i64 a1)), (2, .v (.int .i64 a2))]) H0 g
  have hS := St.start hf
  refine r_seq ?_
  refine r_region (n := 2) rfl ?_
  refine o_box (v := .agg [.sl .no 4 (a0.Clauses.map Clause.cells), .v (.int .i64 a0.Loan)]) (cs := [.sl .no 4 (a0.Clauses.map Clause.cells), .v (.int .i64 a0.Loan)]) hS (by decide) rfl rfl (by omega) fun H hS => ?_
  refine o_assign (v := .v (.bool false)) (by decide) rfl ?_
  refine run_nil ?_
  refine w_next [(1, .v (.int .i64 a1)), (2, .v (.int .i64 a2)), (3, .ptr (g + 0) 0)] (.cons (.refl _) (.cons (.refl _) (.cons (.refl _) .nil))) ?_
  refine r_seq ?_
  refine w_join (J := Bool) (fun j => [(1, .v (.int .i64 a1)), (2, .v (.int .i64 a2)), (3, .ptr (g + 0) 0), (33, .v (.bool j))]) (fun j H' g' => St (· < g) H0 [(g + 0, .cells [.sl .no 4 (a0.Clauses.map Clause.cells), .v (.int .i64 a0.Loan)])] H' g' ∧ law09_SharesGreater_j1 n a0 a1 a2 j = some r) ?_ ?_
  · rintro v1 H g1 ⟨hS, hM⟩
    change wpA _ _ _ _ (Fr.of [(1, .v (.int .i64 a1)), (2, .v (.int .i64 a2)), (3, .ptr (g + 0) 0), (33, .v (.bool v1))]) _ _
    replace hS : St (· < g) H0 [(g + 0, .cells [.sl .no 4 (a0.Clauses.map Clause.cells), .v (.int .i64 a0.Loan)])] H g1 := hS
    replace hM : law09_SharesGreater_j1 n a0 a1 a2 v1 = some r := hM
    rcases Bool.eq_false_or_eq_true v1 with hb2 | hb2
    · replace hM := ifT hM hb2
      refine w_condT (e := v1) rfl hb2 ?_
      refine r_seq ?_
      refine r_region (n := 2) rfl ?_
      obtain ⟨r3, hr3, hM⟩ := bindE hM
      refine o_call (bs := []) (by decide) rfl rfl ((W_law09_works hr3).le .nil) ?_
      refine o_assign (v := .v (.bool r3)) (by decide) rfl ?_
      refine run_nil ?_
      replace hS := hS.keep (L' := []) [false] rfl
      refine w_next [(6, .v (.bool r3))] (.cons (.refl _) .nil) ?_
      refine r_ret ?_
      refine r_then_ret ?_
      refine w_end (x := .v (.bool r3)) (f := fun r => .v (.bool r)) (.inr rfl) ?_ (.refl _) (Option.some.inj hM) hS
      exact (res_one (res_tmp (x := .v (.bool r3)) rfl))
    · replace hM := ifF hM hb2
      refine w_condF (e := v1) rfl hb2 ?_
      refine r_skip ?_
      refine w_next [(1, .v (.int .i64 a1)), (2, .v (.int .i64 a2)), (3, .ptr (g + 0) 0)] (.cons (.refl _) (.cons (.refl _) (.cons (.refl _) .nil))) ?_
      refine r_seq ?_
      refine r_region (n := 1) rfl ?_
      refine o_assign (v := .v (.int .i64 0)) (by decide) rfl ?_
      refine run_nil ?_
      refine w_next [(1, .v (.int .i64 a1)), (2, .v (.int .i64 a2)), (3, .ptr (g + 0) 0), (7, .v (.int .i64 0))] (.cons (.refl _) (.cons (.refl _) (.cons (.refl _) (.cons (.refl _) .nil)))) ?_
      refine w_join (J := Int) (fun j => [(1, .v (.int .i64 a1)), (2, .v (.int .i64 a2)), (3, .ptr (g + 0) 0), (7, .v (.int .i64 j))]) (fun j H' g' => St (· < g) H0 [(g + 0, .cells [.sl .no 4 (a0.Clauses.map Clause.cells), .v (.int .i64 a0.Loan)])] H' g' ∧ law09_SharesGreater_j2 n a0 a1 a2 j = some r) ?_ ?_
      · rintro v4 H g2 ⟨hS, hM⟩
        change wpA _ _ _ _ (Fr.of [(1, .v (.int .i64 a1)), (2, .v (.int .i64 a2)), (3, .ptr (g + 0) 0), (7, .v (.int .i64 v4))]) _ _
        replace hS : St (· < g) H0 [(g + 0, .cells [.sl .no 4 (a0.Clauses.map Clause.cells), .v (.int .i64 a0.Loan)])] H g2 := hS
        replace hM : law09_SharesGreater_j2 n a0 a1 a2 v4 = some r := hM
        refine r_seq ?_
        refine r_region (n := 9) rfl ?_
        refine o_load (v := .agg [.sl .no 4 (a0.Clauses.map Clause.cells), .v (.int .i64 a0.Loan)]) 0 hS (by decide) rfl rfl .no (part_agg ty_agg24 (Nat.le_of_ble_eq_true rfl) rfl) ?_
        refine o_move (v := .v (.int .i64 a1)) (by decide) rfl ?_
        obtain ⟨r5, hr5, hM⟩ := bindE hM
        refine o_call (bs := [.agg [.sl .no 4 (a0.Clauses.map Clause.cells), .v (.int .i64 a0.Loan)], .v (.int .i64 a1)]) (by decide) rfl rfl ((W_shares_Week hr5).le (.cons (.refl _) (.cons (.refl _) .nil))) ?_
        refine o_move (v := .tup [.agg [.v (.int .i64 r5.1.Operator), .v (.int .i64 r5.1.Owner), .v (.int .i64 r5.1.Repaid)], .v (.int .i64 r5.2)]) (by decide) rfl ?_
        refine o_extract (v := .agg [.v (.int .i64 r5.1.Operator), .v (.int .i64 r5.1.Owner), .v (.int .i64 r5.1.Repaid)]) (by decide) rfl rfl ?_
        refine o_extract (v := .v (.int .i64 r5.2)) (by decide) rfl rfl ?_
        refine o_alloc hS (by decide) ty_zero41 (by omega) fun H hS => ?_
        refine o_store (v := .agg [.v (.int .i64 r5.1.Operator), .v (.int .i64 r5.1.Owner), .v (.int .i64 r5.1.Repaid)]) (ns := [.v (.int .i64 r5.1.Operator), .v (.int .i64 r5.1.Owner), .v (.int .i64 r5.1.Repaid)]) (L' := [(g2 + 6, .cells [.v (.int .i64 r5.1.Operator), .v (.int .i64 r5.1.Owner), .v (.int .i64 r5.1.Repaid)]), (g + 0, .cells [.sl .no 4 (a0.Clauses.map Clause.cells), .v (.int .i64 a0.Loan)])]) 0 hS rfl rfl .no rfl rfl ty_var41 (Nat.le_of_ble_eq_true rfl) rfl fun H hS => ?_
        refine o_assign (v := .v (.int .i64 r5.2)) (by decide) rfl ?_
        refine run_nil ?_
        refine w_next [(1, .v (.int .i64 a1)), (2, .v (.int .i64 a2)), (3, .ptr (g + 0) 0), (7, .v (.int .i64 v4)), (10, .ptr (g2 + 6) 0), (11, .v (.int .i64 r5.2))] (.cons (.refl _) (.cons (.refl _) (.cons (.refl _) (.cons (.refl _) (.cons (.refl _) (.cons (.refl _) .nil)))))) ?_
        refine r_seq ?_
        refine r_region (n := 11) rfl ?_
        refine o_load (v := .agg [.sl .no 4 (a0.Clauses.map Clause.cells), .v (.int .i64 a0.Loan)]) 1 hS (by decide) rfl rfl .no (part_agg ty_agg24 (Nat.le_of_ble_eq_true rfl) rfl) ?_
        refine o_move (v := .v (.int .i64 a1)) (by decide) rfl ?_
        refine o_move (v := .v (.int .i64 a2)) (by decide) rfl ?_
        refine o_int (v := .v (.int .i64 (w64 (a1 + a2)))) (by decide) rfl rfl rfl ?_
        obtain ⟨r6, hr6, hM⟩ := bindE hM
        refine o_call (bs := [.agg [.sl .no 4 (a0.Clauses.map Clause.cells), .v (.int .i64 a0.Loan)], .v (.int .i64 (w64 (a1 + a2)))]) (by decide) rfl rfl ((W_shares_Week hr6).le (.cons (.refl _) (.cons (.refl _) .nil))) ?_
        refine o_move (v := .tup [.agg [.v (.int .i64 r6.1.Operator), .v (.int .i64 r6.1.Owner), .v (.int .i64 r6.1.Repaid)], .v (.int .i64 r6.2)]) (by decide) rfl ?_
        refine o_extract (v := .agg [.v (.int .i64 r6.1.Operator), .v (.int .i64 r6.1.Owner), .v (.int .i64 r6.1.Repaid)]) (by decide) rfl rfl ?_
        refine o_extract (v := .v (.int .i64 r6.2)) (by decide) rfl rfl ?_
        refine o_alloc hS (by decide) ty_zero41 (by omega) fun H hS => ?_
        refine o_store (v := .agg [.v (.int .i64 r6.1.Operator), .v (.int .i64 r6.1.Owner), .v (.int .i64 r6.1.Repaid)]) (ns := [.v (.int .i64 r6.1.Operator), .v (.int .i64 r6.1.Owner), .v (.int .i64 r6.1.Repaid)]) (L' := [(g2 + 9 + 8, .cells [.v (.int .i64 r6.1.Operator), .v (.int .i64 r6.1.Owner), .v (.int .i64 r6.1.Repaid)]), (g2 + 6, .cells [.v (.int .i64 r5.1.Operator), .v (.int .i64 r5.1.Owner), .v (.int .i64 r5.1.Repaid)]), (g + 0, .cells [.sl .no 4 (a0.Clauses.map Clause.cells), .v (.int .i64 a0.Loan)])]) 0 hS rfl rfl .no rfl rfl ty_var41 (Nat.le_of_ble_eq_true rfl) rfl fun H hS => ?_
        refine o_assign (v := .v (.int .i64 r6.2)) (by decide) rfl ?_
        refine run_nil ?_
        refine w_next [(1, .v (.int .i64 a1)), (2, .v (.int .i64 a2)), (3, .ptr (g + 0) 0), (7, .v (.int .i64 v4)), (10, .ptr (g2 + 6) 0), (11, .v (.int .i64 r5.2)), (12, .ptr (g2 + 9 + 8) 0), (13, .v (.int .i64 r6.2))] (.cons (.refl _) (.cons (.refl _) (.cons (.refl _) (.cons (.refl _) (.cons (.refl _) (.cons (.refl _) (.cons (.refl _) (.cons (.refl _) .nil)))))))) ?_
        refine w_join (J := Bool) (fun j => [(6, .v (.bool j))]) (fun j H' g' => St (· < g) H0 [] H' g' ∧ law09_SharesGreater_j3 j = some r) ?_ ?_
        · rintro v7 H g3 ⟨hS, hM⟩
          change wpA _ _ _ _ (Fr.of [(6, .v (.bool v7))]) _ _
          replace hS : St (· < g) H0 [] H g3 := hS
          replace hM : law09_SharesGreater_j3 v7 = some r := hM
          refine r_ret ?_
          refine w_end (x := .v (.bool v7)) (f := fun r => .v (.bool r)) (.inr rfl) ?_ (.refl _) (Option.some.inj hM) hS
          exact (res_one (res_tmp (x := .v (.bool v7)) rfl))
        · refine r_region (n := 37) rfl ?_
          refine o_move (v := .v (.int .i64 r5.2)) (by decide) rfl ?_
          refine o_int (v := .v (.bool (r5.2 == 0))) (by decide) rfl rfl rfl ?_
          refine o_move (v := .v (.bool (r5.2 == 0))) (by decide) rfl ?_
          rcases Bool.eq_false_or_eq_true (r5.2 == 0) with hb8 | hb8
          · replace hM := ifT hM hb8
            refine o_guardY (j := 2) (e := (r5.2 == 0)) (want := true) rfl hb8 ?_
            refine o_move (v := .v (.int .i64 r6.2)) (by decide) rfl ?_
            refine o_guardY (j := 2) (e := (r5.2 == 0)) (want := true) rfl hb8 ?_
            refine o_int (v := .v (.bool (r6.2 == 0))) (by decide) rfl rfl rfl ?_
            refine o_pickT (v := .v (.bool (r6.2 == 0))) (e := (r5.2 == 0)) (by decide) rfl hb8 rfl ?_
            refine o_move (v := .v (.bool (r6.2 == 0))) (by decide) rfl ?_
            rcases Bool.eq_false_or_eq_true (r6.2 == 0) with hb9 | hb9
            · replace hM := ifT hM hb9
              refine o_guardY (j := 6) (e := (r6.2 == 0)) (want := true) rfl hb9 ?_
              refine o_load (v := .agg [.v (.int .i64 r5.1.Operator), .v (.int .i64 r5.1.Owner), .v (.int .i64 r5.1.Repaid)]) 1 hS (by decide) rfl rfl .no (part_agg ty_agg41 (Nat.le_of_ble_eq_true rfl) rfl) ?_
              refine o_guardY (j := 6) (e := (r6.2 == 0)) (want := true) rfl hb9 ?_
              refine o_move (v := .v (.int .i64 a1)) (by decide) rfl ?_
              refine o_guardY (j := 6) (e := (r6.2 == 0)) (want := true) rfl hb9 ?_
              refine o_fieldP (by decide) ty_fo24_1 rfl ?_
              refine o_guardY (j := 6) (e := (r6.2 == 0)) (want := true) rfl hb9 ?_
              refine o_load (v := .v (.int .i64 a0.Loan)) 2 hS (by decide) rfl rfl .no (part_one ty_agg3 ty_sc3 rfl) ?_
              refine o_guardY (j := 6) (e := (r6.2 == 0)) (want := true) rfl hb9 ?_
              obtain ⟨r10, hr10, hM⟩ := bindE hM
              refine o_call (bs := [.agg [.v (.int .i64 r5.1.Operator), .v (.int .i64 r5.1.Owner), .v (.int .i64 r5.1.Repaid)], .v (.int .i64 a1), .v (.int .i64 a0.Loan)]) (by decide) rfl rfl ((W_law09_isSplit hr10).le (.cons (.refl _) (.cons (.refl _) (.cons (.refl _) .nil)))) ?_
              refine o_pickT (v := .v (.bool r10)) (e := (r6.2 == 0)) (by decide) rfl hb9 rfl ?_
              refine o_move (v := .v (.bool r10)) (by decide) rfl ?_
              rcases Bool.eq_false_or_eq_true r10 with hb11 | hb11
              · replace hM := ifT hM hb11
                refine o_guardY (j := 13) (e := r10) (want := true) rfl hb11 ?_
                refine o_load (v := .agg [.v (.int .i64 r6.1.Operator), .v (.int .i64 r6.1.Owner), .v (.int .i64 r6.1.Repaid)]) 0 hS (by decide) rfl rfl .no (part_agg ty_agg41 (Nat.le_of_ble_eq_true rfl) rfl) ?_
                refine o_guardY (j := 13) (e := r10) (want := true) rfl hb11 ?_
                refine o_move (v := .v (.int .i64 a1)) (by decide) rfl ?_
                refine o_guardY (j := 13) (e := r10) (want := true) rfl hb11 ?_
                refine o_move (v := .v (.int .i64 a2)) (by decide) rfl ?_
                refine o_guardY (j := 13) (e := r10) (want := true) rfl hb11 ?_
                refine o_int (v := .v (.int .i64 (w64 (a1 + a2)))) (by decide) rfl rfl rfl ?_
                refine o_guardY (j := 13) (e := r10) (want := true) rfl hb11 ?_
                refine o_fieldP (by decide) ty_fo24_1 rfl ?_
                refine o_guardY (j := 13) (e := r10) (want := true) rfl hb11 ?_
                refine o_load (v := .v (.int .i64 a0.Loan)) 2 hS (by decide) rfl rfl .no (part_one ty_agg3 ty_sc3 rfl) ?_
                refine o_guardY (j := 13) (e := r10) (want := true) rfl hb11 ?_
                obtain ⟨r12, hr12, hM⟩ := bindE hM
                refine o_call (bs := [.agg [.v (.int .i64 r6.1.Operator), .v (.int .i64 r6.1.Owner), .v (.int .i64 r6.1.Repaid)], .v (.int .i64 (w64 (a1 + a2))), .v (.int .i64 a0.Loan)]) (by decide) rfl rfl ((W_law09_isSplit hr12).le (.cons (.refl _) (.cons (.refl _) (.cons (.refl _) .nil)))) ?_
                refine o_pickT (v := .v (.bool r12)) (e := r10) (by decide) rfl hb11 rfl ?_
                refine o_move (v := .v (.bool r12)) (by decide) rfl ?_
                rcases Bool.eq_false_or_eq_true r12 with hb13 | hb13
                · replace hM := ifT hM hb13
                  refine o_guardY (j := 22) (e := r12) (want := true) rfl hb13 ?_
                  refine o_move (v := .v (.int .i64 v4)) (by decide) rfl ?_
                  refine o_guardY (j := 22) (e := r12) (want := true) rfl hb13 ?_
                  refine o_int (v := .v (.bool (decide (v4 > 1)))) (by decide) rfl rfl rfl ?_
                  refine o_guardY (j := 22) (e := r12) (want := true) rfl hb13 ?_
                  refine o_move (v := .v (.bool (decide (v4 > 1)))) (by decide) rfl ?_
                  rcases Bool.eq_false_or_eq_true (decide (v4 > 1)) with hb14 | hb14
                  · replace hM := ifT hM hb14
                    refine o_guardN (j := 25) (e := (decide (v4 > 1))) (want := false) (by decide) rfl hb14 ?_
                    refine o_guardN (j := 25) (e := (decide (v4 > 1))) (want := false) (by decide) rfl hb14 ?_
                    refine o_guardN (j := 25) (e := (decide (v4 > 1))) (want := false) (by decide) rfl hb14 ?_
                    refine o_guardN (j := 25) (e := (decide (v4 > 1))) (want := false) (by decide) rfl hb14 ?_
                    refine o_guardN (j := 25) (e := (decide (v4 > 1))) (want := false) (by decide) rfl hb14 ?_
                    refine o_guardY (j := 22) (e := r12) (want := true) rfl hb13 ?_
                    refine o_pickT (v := .v (.bool true)) (e := (decide (v4 > 1))) (by decide) rfl hb14 rfl ?_
                    refine o_pickT (v := .v (.bool true)) (e := r12) (by decide) rfl hb13 rfl ?_
                    refine o_move (v := .v (.bool true)) (by decide) rfl ?_
                    refine o_guardY (j := 33) (e := true) (want := true) rfl rfl ?_
                    obtain ⟨r15, hr15, hM⟩ := bindE hM
                    refine o_call (bs := []) (by decide) rfl rfl ((W_law09_works hr15).le .nil) ?_
                    refine o_pickT (v := .v (.bool r15)) (e := true) (by decide) rfl rfl rfl ?_
                    refine o_assign (v := .v (.bool r15)) (by decide) rfl ?_
                    refine run_nil ?_
                    exact w_goto r15 (.cons (.refl _) .nil) ⟨(hS.keep [false, false, false] rfl).up (by omega), hM⟩
                  · replace hM := ifF hM hb14
                    refine o_guardY (j := 25) (e := (decide (v4 > 1))) (want := false) rfl hb14 ?_
                    refine o_fieldP (by decide) ty_fo41_1 rfl ?_
                    refine o_guardY (j := 25) (e := (decide (v4 > 1))) (want := false) rfl hb14 ?_
                    refine o_load (v := .v (.int .i64 r6.1.Owner)) 0 hS (by decide) rfl rfl .no (part_one ty_agg3 ty_sc3 rfl) ?_
                    refine o_guardY (j := 25) (e := (decide (v4 > 1))) (want := false) rfl hb14 ?_
                    refine o_fieldP (by decide) ty_fo41_1 rfl ?_
                    refine o_guardY (j := 25) (e := (decide (v4 > 1))) (want := false) rfl hb14 ?_
                    refine o_load (v := .v (.int .i64 r5.1.Owner)) 1 hS (by decide) rfl rfl .no (part_one ty_agg3 ty_sc3 rfl) ?_
                    refine o_guardY (j := 25) (e := (decide (v4 > 1))) (want := false) rfl hb14 ?_
                    refine o_int (v := .v (.bool (decide (r6.1.Owner ≥ r5.1.Owner)))) (by decide) rfl rfl rfl ?_
                    refine o_guardY (j := 22) (e := r12) (want := true) rfl hb13 ?_
                    refine o_pickF (v := .v (.bool (decide (r6.1.Owner ≥ r5.1.Owner)))) (e := (decide (v4 > 1))) (by decide) rfl hb14 rfl ?_
                    refine o_pickT (v := .v (.bool (decide (r6.1.Owner ≥ r5.1.Owner)))) (e := r12) (by decide) rfl hb13 rfl ?_
                    refine o_move (v := .v (.bool (decide (r6.1.Owner ≥ r5.1.Owner)))) (by decide) rfl ?_
                    rcases Bool.eq_false_or_eq_true (decide (r6.1.Owner ≥ r5.1.Owner)) with hb16 | hb16
                    · replace hM := ifT hM hb16
                      refine o_guardY (j := 33) (e := (decide (r6.1.Owner ≥ r5.1.Owner))) (want := true) rfl hb16 ?_
                      obtain ⟨r17, hr17, hM⟩ := bindE hM
                      refine o_call (bs := []) (by decide) rfl rfl ((W_law09_works hr17).le .nil) ?_
                      refine o_pickT (v := .v (.bool r17)) (e := (decide (r6.1.Owner ≥ r5.1.Owner))) (by decide) rfl hb16 rfl ?_
                      refine o_assign (v := .v (.bool r17)) (by decide) rfl ?_
                      refine run_nil ?_
                      exact w_goto r17 (.cons (.refl _) .nil) ⟨(hS.keep [false, false, false] rfl).up (by omega), hM⟩
                    · replace hM := ifF hM hb16
                      refine o_guardN (j := 33) (e := (decide (r6.1.Owner ≥ r5.1.Owner))) (want := true) (by decide) rfl hb16 ?_
                      refine o_pickF (v := .v (.bool false)) (e := (decide (r6.1.Owner ≥ r5.1.Owner))) (by decide) rfl hb16 rfl ?_
                      refine o_assign (v := .v (.bool false)) (by decide) rfl ?_
                      refine run_nil ?_
                      exact w_goto false (.cons (.refl _) .nil) ⟨(hS.keep [false, false, false] rfl).up (by omega), hM⟩
                · replace hM := ifF hM hb13
                  refine o_guardN (j := 22) (e := r12) (want := true) (by decide) rfl hb13 ?_
                  refine o_guardN (j := 22) (e := r12) (want := true) (by decide) rfl hb13 ?_
                  refine o_guardN (j := 22) (e := r12) (want := true) (by decide) rfl hb13 ?_
                  refine o_guardU (j := 25) (by decide) rfl ?_
                  refine o_guardU (j := 25) (by decide) rfl ?_
                  refine o_guardU (j := 25) (by decide) rfl ?_
                  refine o_guardU (j := 25) (by decide) rfl ?_
                  refine o_guardU (j := 25) (by decide) rfl ?_
                  refine o_guardN (j := 22) (e := r12) (want := true) (by decide) rfl hb13 ?_
                  refine o_pickF (v := .v (.bool false)) (e := r12) (by decide) rfl hb13 rfl ?_
                  refine o_move (v := .v (.bool false)) (by decide) rfl ?_
                  refine o_guardN (j := 33) (e := false) (want := true) (by decide) rfl rfl ?_
                  refine o_pickF (v := .v (.bool false)) (e := false) (by decide) rfl rfl rfl ?_
                  refine o_assign (v := .v (.bool false)) (by decide) rfl ?_
                  refine run_nil ?_
                  exact w_goto false (.cons (.refl _) .nil) ⟨(hS.keep [false, false, false] rfl).up (by omega), hM⟩
              · replace hM := ifF hM hb11
                refine o_guardN (j := 13) (e := r10) (want := true) (by decide) rfl hb11 ?_
                refine o_guardN (j := 13) (e := r10) (want := true) (by decide) rfl hb11 ?_
                refine o_guardN (j := 13) (e := r10) (want := true) (by decide) rfl hb11 ?_
                refine o_guardN (j := 13) (e := r10) (want := true) (by decide) rfl hb11 ?_
                refine o_guardN (j := 13) (e := r10) (want := true) (by decide) rfl hb11 ?_
                refine o_guardN (j := 13) (e := r10) (want := true) (by decide) rfl hb11 ?_
                refine o_guardN (j := 13) (e := r10) (want := true) (by decide) rfl hb11 ?_
                refine o_pickF (v := .v (.bool false)) (e := r10) (by decide) rfl hb11 rfl ?_
                refine o_move (v := .v (.bool false)) (by decide) rfl ?_
                refine o_guardN (j := 22) (e := false) (want := true) (by decide) rfl rfl ?_
                refine o_guardN (j := 22) (e := false) (want := true) (by decide) rfl rfl ?_
                refine o_guardN (j := 22) (e := false) (want := true) (by decide) rfl rfl ?_
                refine o_guardU (j := 25) (by decide) rfl ?_
                refine o_guardU (j := 25) (by decide) rfl ?_
                refine o_guardU (j := 25) (by decide) rfl ?_
                refine o_guardU (j := 25) (by decide) rfl ?_
                refine o_guardU (j := 25) (by decide) rfl ?_
                refine o_guardN (j := 22) (e := false) (want := true) (by decide) rfl rfl ?_
                refine o_pickF (v := .v (.bool false)) (e := false) (by decide) rfl rfl rfl ?_
                refine o_move (v := .v (.bool false)) (by decide) rfl ?_
                refine o_guardN (j := 33) (e := false) (want := true) (by decide) rfl rfl ?_
                refine o_pickF (v := .v (.bool false)) (e := false) (by decide) rfl rfl rfl ?_
                refine o_assign (v := .v (.bool false)) (by decide) rfl ?_
                refine run_nil ?_
                exact w_goto false (.cons (.refl _) .nil) ⟨(hS.keep [false, false, false] rfl).up (by omega), hM⟩
            · replace hM := ifF hM hb9
              refine o_guardN (j := 6) (e := (r6.2 == 0)) (want := true) (by decide) rfl hb9 ?_
              refine o_guardN (j := 6) (e := (r6.2 == 0)) (want := true) (by decide) rfl hb9 ?_
              refine o_guardN (j := 6) (e := (r6.2 == 0)) (want := true) (by decide) rfl hb9 ?_
              refine o_guardN (j := 6) (e := (r6.2 == 0)) (want := true) (by decide) rfl hb9 ?_
              refine o_guardN (j := 6) (e := (r6.2 == 0)) (want := true) (by decide) rfl hb9 ?_
              refine o_pickF (v := .v (.bool false)) (e := (r6.2 == 0)) (by decide) rfl hb9 rfl ?_
              refine o_move (v := .v (.bool false)) (by decide) rfl ?_
              refine o_guardN (j := 13) (e := false) (want := true) (by decide) rfl rfl ?_
              refine o_guardN (j := 13) (e := false) (want := true) (by decide) rfl rfl ?_
              refine o_guardN (j := 13) (e := false) (want := true) (by decide) rfl rfl ?_
              refine o_guardN (j := 13) (e := false) (want := true) (by decide) rfl rfl ?_
              refine o_guardN (j := 13) (e := false) (want := true) (by decide) rfl rfl ?_
              refine o_guardN (j := 13) (e := false) (want := true) (by decide) rfl rfl ?_
              refine o_guardN (j := 13) (e := false) (want := true) (by decide) rfl rfl ?_
              refine o_pickF (v := .v (.bool false)) (e := false) (by decide) rfl rfl rfl ?_
              refine o_move (v := .v (.bool false)) (by decide) rfl ?_
              refine o_guardN (j := 22) (e := false) (want := true) (by decide) rfl rfl ?_
              refine o_guardN (j := 22) (e := false) (want := true) (by decide) rfl rfl ?_
              refine o_guardN (j := 22) (e := false) (want := true) (by decide) rfl rfl ?_
              refine o_guardU (j := 25) (by decide) rfl ?_
              refine o_guardU (j := 25) (by decide) rfl ?_
              refine o_guardU (j := 25) (by decide) rfl ?_
              refine o_guardU (j := 25) (by decide) rfl ?_
              refine o_guardU (j := 25) (by decide) rfl ?_
              refine o_guardN (j := 22) (e := false) (want := true) (by decide) rfl rfl ?_
              refine o_pickF (v := .v (.bool false)) (e := false) (by decide) rfl rfl rfl ?_
              refine o_move (v := .v (.bool false)) (by decide) rfl ?_
              refine o_guardN (j := 33) (e := false) (want := true) (by decide) rfl rfl ?_
              refine o_pickF (v := .v (.bool false)) (e := false) (by decide) rfl rfl rfl ?_
              refine o_assign (v := .v (.bool false)) (by decide) rfl ?_
              refine run_nil ?_
              exact w_goto false (.cons (.refl _) .nil) ⟨(hS.keep [false, false, false] rfl).up (by omega), hM⟩
          · replace hM := ifF hM hb8
            refine o_guardN (j := 2) (e := (r5.2 == 0)) (want := true) (by decide) rfl hb8 ?_
            refine o_guardN (j := 2) (e := (r5.2 == 0)) (want := true) (by decide) rfl hb8 ?_
            refine o_pickF (v := .v (.bool false)) (e := (r5.2 == 0)) (by decide) rfl hb8 rfl ?_
            refine o_move (v := .v (.bool false)) (by decide) rfl ?_
            refine o_guardN (j := 6) (e := false) (want := true) (by decide) rfl rfl ?_
            refine o_guardN (j := 6) (e := false) (want := true) (by decide) rfl rfl ?_
            refine o_guardN (j := 6) (e := false) (want := true) (by decide) rfl rfl ?_
            refine o_guardN (j := 6) (e := false) (want := true) (by decide) rfl rfl ?_
            refine o_guardN (j := 6) (e := false) (want := true) (by decide) rfl rfl ?_
            refine o_pickF (v := .v (.bool false)) (e := false) (by decide) rfl rfl rfl ?_
            refine o_move (v := .v (.bool false)) (by decide) rfl ?_
            refine o_guardN (j := 13) (e := false) (want := true) (by decide) rfl rfl ?_
            refine o_guardN (j := 13) (e := false) (want := true) (by decide) rfl rfl ?_
            refine o_guardN (j := 13) (e := false) (want := true) (by decide) rfl rfl ?_
            refine o_guardN (j := 13) (e := false) (want := true) (by decide) rfl rfl ?_
            refine o_guardN (j := 13) (e := false) (want := true) (by decide) rfl rfl ?_
            refine o_guardN (j := 13) (e := false) (want := true) (by decide) rfl rfl ?_
            refine o_guardN (j := 13) (e := false) (want := true) (by decide) rfl rfl ?_
            refine o_pickF (v := .v (.bool false)) (e := false) (by decide) rfl rfl rfl ?_
            refine o_move (v := .v (.bool false)) (by decide) rfl ?_
            refine o_guardN (j := 22) (e := false) (want := true) (by decide) rfl rfl ?_
            refine o_guardN (j := 22) (e := false) (want := true) (by decide) rfl rfl ?_
            refine o_guardN (j := 22) (e := false) (want := true) (by decide) rfl rfl ?_
            refine o_guardU (j := 25) (by decide) rfl ?_
            refine o_guardU (j := 25) (by decide) rfl ?_
            refine o_guardU (j := 25) (by decide) rfl ?_
            refine o_guardU (j := 25) (by decide) rfl ?_
            refine o_guardU (j := 25) (by decide) rfl ?_
            refine o_guardN (j := 22) (e := false) (want := true) (by decide) rfl rfl ?_
            refine o_pickF (v := .v (.bool false)) (e := false) (by decide) rfl rfl rfl ?_
            refine o_move (v := .v (.bool false)) (by decide) rfl ?_
            refine o_guardN (j := 33) (e := false) (want := true) (by decide) rfl rfl ?_
            refine o_pickF (v := .v (.bool false)) (e := false) (by decide) rfl rfl rfl ?_
            refine o_assign (v := .v (.bool false)) (by decide) rfl ?_
            refine run_nil ?_
            exact w_goto false (.cons (.refl _) .nil) ⟨(hS.keep [false, false, false] rfl).up (by omega), hM⟩
      · refine r_seq ?_
        refine r_region (n := 1) rfl ?_
        refine o_assign (v := .v (.int .i64 0)) (by decide) rfl ?_
        refine run_nil ?_
        refine w_next [(1, .v (.int .i64 a1)), (2, .v (.int .i64 a2)), (3, .ptr (g + 0) 0), (7, .v (.int .i64 0)), (8, .v (.int .i64 0))] (.cons (.refl _) (.cons (.refl _) (.cons (.refl _) (.cons (.refl _) (.cons (.refl _) .nil))))) ?_
        refine r_block ?_
        refine w_loop (V := Int × Int) (fun v => [(1, .v (.int .i64 a1)), (2, .v (.int .i64 a2)), (3, .ptr (g + 0) 0), (7, .v (.int .i64 v.1)), (8, .v (.int .i64 v.2))]) (fun v m H' g' => St (· < g) H0 [(g + 0, .cells [.sl .no 4 (a0.Clauses.map Clause.cells), .v (.int .i64 a0.Loan)])] H' g' ∧ law09_SharesGreater_l1 n a0 a1 a2 m v.1 v.2 = some r) (n := n) (0, 0) (.cons (.refl _) (.cons (.refl _) (.cons (.refl _) (.cons (.refl _) (.cons (.refl _) .nil))))) ⟨(hS.keep [true] rfl).up (by omega), hM⟩ ?_
        rintro ⟨v18, v19⟩ m H g4 ⟨hS, hM⟩
        obtain _ | m := m
        · exact nomatch (show none = some _ from hM)
        change wpA _ _ _ _ (Fr.of [(1, .v (.int .i64 a1)), (2, .v (.int .i64 a2)), (3, .ptr (g + 0) 0), (7, .v (.int .i64 v18)), (8, .v (.int .i64 v19))]) _ _
        replace hS : St (· < g) H0 [(g + 0, .cells [.sl .no 4 (a0.Clauses.map Clause.cells), .v (.int .i64 a0.Loan)])] H g4 := hS
        replace hM : law09_SharesGreater_l1_b n a0 a1 a2 (law09_SharesGreater_l1 n a0 a1 a2 m) v18 v19 = some r := hM
        refine r_seq ?_
        refine r_seq ?_
        refine r_region (n := 5) rfl ?_
        refine o_move (v := .v (.int .i64 v19)) (by decide) rfl ?_
        refine o_fieldP (by decide) ty_fo24_0 rfl ?_
        refine o_load (v := .sl .no 4 (a0.Clauses.map Clause.cells)) 0 hS (by decide) rfl rfl .no (part_one ty_agg22 ty_sc22 rfl) ?_
        refine o_len (n := a0.Clauses.length) (by decide) rfl (List.length_map _) ty_isl22 ?_
        refine o_int (v := .v (.bool (decide (v19 < (a0.Clauses.length : Int))))) (by decide) rfl rfl rfl ?_
        refine run_nil ?_
        refine w_next [(1, .v (.int .i64 a1)), (2, .v (.int .i64 a2)), (3, .ptr (g + 0) 0), (7, .v (.int .i64 v18)), (8, .v (.int .i64 v19)), (39, .v (.bool (decide (v19 < (a0.Clauses.length : Int)))))] (.cons (.refl _) (.cons (.refl _) (.cons (.refl _) (.cons (.refl _) (.cons (.refl _) (.cons (.refl _) .nil)))))) ?_
        rcases Bool.eq_false_or_eq_true (decide (v19 < (a0.Clauses.length : Int))) with hb20 | hb20
        · replace hM := ifT hM hb20
          refine w_condT (e := (decide (v19 < (a0.Clauses.length : Int)))) rfl hb20 ?_
          refine r_skip ?_
          refine w_next [(1, .v (.int .i64 a1)), (2, .v (.int .i64 a2)), (3, .ptr (g + 0) 0), (7, .v (.int .i64 v18)), (8, .v (.int .i64 v19))] (.cons (.refl _) (.cons (.refl _) (.cons (.refl _) (.cons (.refl _) (.cons (.refl _) .nil))))) ?_
          refine w_join (J := Int) (fun j => [(1, .v (.int .i64 a1)), (2, .v (.int .i64 a2)), (3, .ptr (g + 0) 0), (7, .v (.int .i64 j)), (8, .v (.int .i64 v19))]) (fun j H' g' => St (· < g) H0 [(g + 0, .cells [.sl .no 4 (a0.Clauses.map Clause.cells), .v (.int .i64 a0.Loan)])] H' g' ∧ law09_SharesGreater_j4 (law09_SharesGreater_l1 n a0 a1 a2 m) v19 j = some r) ?_ ?_
          · rintro v21 H g5 ⟨hS, hM⟩
            change wpA _ _ _ _ (Fr.of [(1, .v (.int .i64 a1)), (2, .v (.int .i64 a2)), (3, .ptr (g + 0) 0), (7, .v (.int .i64 v21)), (8, .v (.int .i64 v19))]) _ _
            replace hS : St (· < g) H0 [(g + 0, .cells [.sl .no 4 (a0.Clauses.map Clause.cells), .v (.int .i64 a0.Loan)])] H g5 := hS
            replace hM : law09_SharesGreater_j4 (law09_SharesGreater_l1 n a0 a1 a2 m) v19 v21 = some r := hM
            refine r_region (n := 3) rfl ?_
            refine o_move (v := .v (.int .i64 v19)) (by decide) rfl ?_
            refine o_int (v := .v (.int .i64 (w64 (v19 + 1)))) (by decide) rfl rfl rfl ?_
            refine o_assign (v := .v (.int .i64 (w64 (v19 + 1)))) (by decide) rfl ?_
            refine run_nil ?_
            exact w_round (v21, w64 (v19 + 1)) (Nat.lt_succ_self _) (.cons (.refl _) (.cons (.refl _) (.cons (.refl _) (.cons (.refl _) (.cons (.refl _) .nil))))) ⟨(hS.keep [true] rfl).up (by omega), hM⟩
          · refine r_block ?_
            refine r_seq ?_
            refine r_region (n := 7) rfl ?_
            refine o_fieldP (by decide) ty_fo24_0 rfl ?_
            refine o_load (v := .sl .no 4 (a0.Clauses.map Clause.cells)) 0 hS (by decide) rfl rfl .no (part_one ty_agg22 ty_sc22 rfl) ?_
            refine o_move (v := .v (.int .i64 v19)) (by decide) rfl ?_
            obtain ⟨x22, hx22, hM⟩ := bindE hM
            refine o_index (xs := a0.Clauses) (f := Clause.cells) (z := v19) (u := x22) (by decide) rfl rfl ty_es22 hx22 ?_
            refine o_fieldE (cs := [.v (.int .i64 x22.Kind), .v (.int .i64 x22.Cents), .v (.int .i64 x22.Part), .v (.int .i64 x22.More)]) (by decide) ty_fo39_0 rfl ?_
            refine o_loadE (v := .v (.int .i64 x22.Kind)) (by decide) rfl (part_one ty_agg3 ty_sc3 rfl) ?_
            refine o_assign (v := .v (.int .i64 x22.Kind)) (by decide) rfl ?_
            refine run_nil ?_
            refine w_next [(1, .v (.int .i64 a1)), (2, .v (.int .i64 a2)), (3, .ptr (g + 0) 0), (7, .v (.int .i64 v18)), (8, .v (.int .i64 v19)), (9, .v (.int .i64 x22.Kind))] (.cons (.refl _) (.cons (.refl _) (.cons (.refl _) (.cons (.refl _) (.cons (.refl _) (.cons (.refl _) .nil)))))) ?_
            refine w_join (J := Bool) (fun j => [(1, .v (.int .i64 a1)), (2, .v (.int .i64 a2)), (3, .ptr (g + 0) 0), (7, .v (.int .i64 v18)), (8, .v (.int .i64 v19)), (53, .v (.bool j))]) (fun j H' g' => St (· < g) H0 [(g + 0, .cells [.sl .no 4 (a0.Clauses.map Clause.cells), .v (.int .i64 a0.Loan)])] H' g' ∧ law09_SharesGreater_j5 (law09_SharesGreater_l1 n a0 a1 a2 m) v18 v19 j = some r) ?_ ?_
            · rintro v23 H g6 ⟨hS, hM⟩
              change wpA _ _ _ _ (Fr.of [(1, .v (.int .i64 a1)), (2, .v (.int .i64 a2)), (3, .ptr (g + 0) 0), (7, .v (.int .i64 v18)), (8, .v (.int .i64 v19)), (53, .v (.bool v23))]) _ _
              replace hS : St (· < g) H0 [(g + 0, .cells [.sl .no 4 (a0.Clauses.map Clause.cells), .v (.int .i64 a0.Loan)])] H g6 := hS
              replace hM : law09_SharesGreater_j5 (law09_SharesGreater_l1 n a0 a1 a2 m) v18 v19 v23 = some r := hM
              rcases Bool.eq_false_or_eq_true v23 with hb24 | hb24
              · replace hM := ifT hM hb24
                refine w_condT (e := v23) rfl hb24 ?_
                refine r_region (n := 3) rfl ?_
                refine o_move (v := .v (.int .i64 v18)) (by decide) rfl ?_
                refine o_int (v := .v (.int .i64 (w64 (v18 + 1)))) (by decide) rfl rfl rfl ?_
                refine o_assign (v := .v (.int .i64 (w64 (v18 + 1)))) (by decide) rfl ?_
                refine run_nil ?_
                refine r_blk_normal ?_
                exact w_goto (w64 (v18 + 1)) (.cons (.refl _) (.cons (.refl _) (.cons (.refl _) (.cons (.refl _) (.cons (.refl _) .nil))))) ⟨(hS.keep [true] rfl).up (by omega), hM⟩
              · replace hM := ifF hM hb24
                refine w_condF (e := v23) rfl hb24 ?_
                refine r_skip ?_
                refine r_blk_normal ?_
                exact w_goto v18 (.cons (.refl _) (.cons (.refl _) (.cons (.refl _) (.cons (.refl _) (.cons (.refl _) .nil))))) ⟨(hS.keep [true] rfl).up (by omega), hM⟩
            · refine r_region (n := 6) rfl ?_
              refine o_move (v := .v (.int .i64 x22.Kind)) (by decide) rfl ?_
              refine o_int (v := .v (.bool (x22.Kind == 3))) (by decide) rfl rfl rfl ?_
              refine o_move (v := .v (.bool (x22.Kind == 3))) (by decide) rfl ?_
              rcases Bool.eq_false_or_eq_true (x22.Kind == 3) with hb25 | hb25
              · replace hM := ifT hM hb25
                refine o_guardN (j := 2) (e := (x22.Kind == 3)) (want := false) (by decide) rfl hb25 ?_
                refine o_guardN (j := 2) (e := (x22.Kind == 3)) (want := false) (by decide) rfl hb25 ?_
                refine o_pickT (v := .v (.bool true)) (e := (x22.Kind == 3)) (by decide) rfl hb25 rfl ?_
                refine run_nil ?_
                exact w_goto true (.cons (.refl _) (.cons (.refl _) (.cons (.refl _) (.cons (.refl _) (.cons (.refl _) (.cons (.refl _) .nil)))))) ⟨(hS.keep [true] rfl).up (by omega), hM⟩
              · replace hM := ifF hM hb25
                refine o_guardY (j := 2) (e := (x22.Kind == 3)) (want := false) rfl hb25 ?_
                refine o_move (v := .v (.int .i64 x22.Kind)) (by decide) rfl ?_
                refine o_guardY (j := 2) (e := (x22.Kind == 3)) (want := false) rfl hb25 ?_
                refine o_int (v := .v (.bool (x22.Kind == 4))) (by decide) rfl rfl rfl ?_
                refine o_pickF (v := .v (.bool (x22.Kind == 4))) (e := (x22.Kind == 3)) (by decide) rfl hb25 rfl ?_
                refine run_nil ?_
                exact w_goto (x22.Kind == 4) (.cons (.refl _) (.cons (.refl _) (.cons (.refl _) (.cons (.refl _) (.cons (.refl _) (.cons (.refl _) .nil)))))) ⟨(hS.keep [true] rfl).up (by omega), hM⟩
        · replace hM := ifF hM hb20
          refine w_condF (e := (decide (v19 < (a0.Clauses.length : Int)))) rfl hb20 ?_
          refine r_exit ?_
          refine r_then_exit ?_
          refine w_round_exit ?_
          refine r_blk_exit ?_
          exact w_goto v18 (.cons (.refl _) (.cons (.refl _) (.cons (.refl _) (.cons (.refl _) .nil)))) ⟨(hS.keep [true] rfl).up (by omega), hM⟩
  · refine r_region (n := 20) rfl ?_
    refine o_load (v := .agg [.sl .no 4 (a0.Clauses.map Clause.cells), .v (.int .i64 a0.Loan)]) 0 hS (by decide) rfl rfl .no (part_agg ty_agg24 (Nat.le_of_ble_eq_true rfl) rfl) ?_
    obtain ⟨r26, hr26, hM⟩ := bindE hM
    refine o_call (bs := [.agg [.sl .no 4 (a0.Clauses.map Clause.cells), .v (.int .i64 a0.Loan)]]) (by decide) rfl rfl ((W_law09_isShare hr26).le (.cons (.refl _) .nil)) ?_
    refine o_not (e := r26) (by decide) rfl ?_
    refine o_move (v := .v (.bool (!r26))) (by decide) rfl ?_
    rcases Bool.eq_false_or_eq_true (!r26) with hb27 | hb27
    · replace hM := ifT hM hb27
      refine o_guardN (j := 3) (e := (!r26)) (want := false) (by decide) rfl hb27 ?_
      refine o_guardN (j := 3) (e := (!r26)) (want := false) (by decide) rfl hb27 ?_
      refine o_guardN (j := 3) (e := (!r26)) (want := false) (by decide) rfl hb27 ?_
      refine o_pickT (v := .v (.bool true)) (e := (!r26)) (by decide) rfl hb27 rfl ?_
      refine o_move (v := .v (.bool true)) (by decide) rfl ?_
      refine o_guardN (j := 8) (e := true) (want := false) (by decide) rfl rfl ?_
      refine o_guardN (j := 8) (e := true) (want := false) (by decide) rfl rfl ?_
      refine o_guardN (j := 8) (e := true) (want := false) (by decide) rfl rfl ?_
      refine o_pickT (v := .v (.bool true)) (e := true) (by decide) rfl rfl rfl ?_
      refine o_move (v := .v (.bool true)) (by decide) rfl ?_
      refine o_guardN (j := 13) (e := true) (want := false) (by decide) rfl rfl ?_
      refine o_guardN (j := 13) (e := true) (want := false) (by decide) rfl rfl ?_
      refine o_guardN (j := 13) (e := true) (want := false) (by decide) rfl rfl ?_
      refine o_guardN (j := 13) (e := true) (want := false) (by decide) rfl rfl ?_
      refine o_guardN (j := 13) (e := true) (want := false) (by decide) rfl rfl ?_
      refine o_pickT (v := .v (.bool true)) (e := true) (by decide) rfl rfl rfl ?_
      refine run_nil ?_
      exact w_goto true (.cons (.refl _) (.cons (.refl _) (.cons (.refl _) (.cons (.refl _) .nil)))) ⟨(hS.keep [true] rfl).up (by omega), hM⟩
    · replace hM := ifF hM hb27
      refine o_guardY (j := 3) (e := (!r26)) (want := false) rfl hb27 ?_
      refine o_move (v := .v (.int .i64 a1)) (by decide) rfl ?_
      refine o_guardY (j := 3) (e := (!r26)) (want := false) rfl hb27 ?_
      obtain ⟨r28, hr28, hM⟩ := bindE hM
      refine o_call (bs := [.v (.int .i64 a1)]) (by decide) rfl rfl ((W_ref09_IsCents hr28).le (.cons (.refl _) .nil)) ?_
      refine o_guardY (j := 3) (e := (!r26)) (want := false) rfl hb27 ?_
      refine o_not (e := r28) (by decide) rfl ?_
      refine o_pickF (v := .v (.bool (!r28))) (e := (!r26)) (by decide) rfl hb27 rfl ?_
      refine o_move (v := .v (.bool (!r28))) (by decide) rfl ?_
      rcases Bool.eq_false_or_eq_true (!r28) with hb29 | hb29
      · replace hM := ifT hM hb29
        refine o_guardN (j := 8) (e := (!r28)) (want := false) (by decide) rfl hb29 ?_
        refine o_guardN (j := 8) (e := (!r28)) (want := false) (by decide) rfl hb29 ?_
        refine o_guardN (j := 8) (e := (!r28)) (want := false) (by decide) rfl hb29 ?_
        refine o_pickT (v := .v (.bool true)) (e := (!r28)) (by decide) rfl hb29 rfl ?_
        refine o_move (v := .v (.bool true)) (by decide) rfl ?_
        refine o_guardN (j := 13) (e := true) (want := false) (by decide) rfl rfl ?_
        refine o_guardN (j := 13) (e := true) (want := false) (by decide) rfl rfl ?_
        refine o_guardN (j := 13) (e := true) (want := false) (by decide) rfl rfl ?_
        refine o_guardN (j := 13) (e := true) (want := false) (by decide) rfl rfl ?_
        refine o_guardN (j := 13) (e := true) (want := false) (by decide) rfl rfl ?_
        refine o_pickT (v := .v (.bool true)) (e := true) (by decide) rfl rfl rfl ?_
        refine run_nil ?_
        exact w_goto true (.cons (.refl _) (.cons (.refl _) (.cons (.refl _) (.cons (.refl _) .nil)))) ⟨(hS.keep [true] rfl).up (by omega), hM⟩
      · replace hM := ifF hM hb29
        refine o_guardY (j := 8) (e := (!r28)) (want := false) rfl hb29 ?_
        refine o_move (v := .v (.int .i64 a2)) (by decide) rfl ?_
        refine o_guardY (j := 8) (e := (!r28)) (want := false) rfl hb29 ?_
        obtain ⟨r30, hr30, hM⟩ := bindE hM
        refine o_call (bs := [.v (.int .i64 a2)]) (by decide) rfl rfl ((W_ref09_IsCents hr30).le (.cons (.refl _) .nil)) ?_
        refine o_guardY (j := 8) (e := (!r28)) (want := false) rfl hb29 ?_
        refine o_not (e := r30) (by decide) rfl ?_
        refine o_pickF (v := .v (.bool (!r30))) (e := (!r28)) (by decide) rfl hb29 rfl ?_
        refine o_move (v := .v (.bool (!r30))) (by decide) rfl ?_
        rcases Bool.eq_false_or_eq_true (!r30) with hb31 | hb31
        · replace hM := ifT hM hb31
          refine o_guardN (j := 13) (e := (!r30)) (want := false) (by decide) rfl hb31 ?_
          refine o_guardN (j := 13) (e := (!r30)) (want := false) (by decide) rfl hb31 ?_
          refine o_guardN (j := 13) (e := (!r30)) (want := false) (by decide) rfl hb31 ?_
          refine o_guardN (j := 13) (e := (!r30)) (want := false) (by decide) rfl hb31 ?_
          refine o_guardN (j := 13) (e := (!r30)) (want := false) (by decide) rfl hb31 ?_
          refine o_pickT (v := .v (.bool true)) (e := (!r30)) (by decide) rfl hb31 rfl ?_
          refine run_nil ?_
          exact w_goto true (.cons (.refl _) (.cons (.refl _) (.cons (.refl _) (.cons (.refl _) .nil)))) ⟨(hS.keep [true] rfl).up (by omega), hM⟩
        · replace hM := ifF hM hb31
          refine o_guardY (j := 13) (e := (!r30)) (want := false) rfl hb31 ?_
          refine o_move (v := .v (.int .i64 a1)) (by decide) rfl ?_
          refine o_guardY (j := 13) (e := (!r30)) (want := false) rfl hb31 ?_
          refine o_move (v := .v (.int .i64 a2)) (by decide) rfl ?_
          refine o_guardY (j := 13) (e := (!r30)) (want := false) rfl hb31 ?_
          refine o_int (v := .v (.int .i64 (w64 (a1 + a2)))) (by decide) rfl rfl rfl ?_
          refine o_guardY (j := 13) (e := (!r30)) (want := false) rfl hb31 ?_
          obtain ⟨r32, hr32, hM⟩ := bindE hM
          refine o_call (bs := [.v (.int .i64 (w64 (a1 + a2)))]) (by decide) rfl rfl ((W_ref09_IsCents hr32).le (.cons (.refl _) .nil)) ?_
          refine o_guardY (j := 13) (e := (!r30)) (want := false) rfl hb31 ?_
          refine o_not (e := r32) (by decide) rfl ?_
          refine o_pickF (v := .v (.bool (!r32))) (e := (!r30)) (by decide) rfl hb31 rfl ?_
          refine run_nil ?_
          exact w_goto (!r32) (.cons (.refl _) (.cons (.refl _) (.cons (.refl _) (.cons (.refl _) .nil)))) ⟨(hS.keep [true] rfl).up (by omega), hM⟩
end Go.Proofs.Ytkgldpboiigphaa
