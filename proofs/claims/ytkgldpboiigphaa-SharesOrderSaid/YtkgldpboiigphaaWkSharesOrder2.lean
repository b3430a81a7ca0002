/-
  The code returns what the functions say (printed by gen.py).
  Conditions: none.
-/
import Derived.Test.YtkgldpboiigphaaWkSharesOrder1
set_option linter.all false
namespace Go.Proofs.Ytkgldpboiigphaa
open Go Go.AM Go.Law
set_option linter.unusedVariables false
set_option maxRecDepth 4000
set_option maxHeartbeats 4000000
theorem W_ref09_IsOrder {n : Nat} {a0 : Share} {a1 : List Int} {r : Bool} (hM : ref09_IsOrder n a0 a1 = some r) : PureSat Try.prog 27 [.agg [.sl .no 4 (a0.Clauses.map Clause.cells), .v (.int .i64 a0.Loan)], .sl .no 1 (a1.map cI)] (.v (.bool r)) := by
  refine pure_of_wp mixed Try.func27 rfl (by decide) Try.ntmps27 (by simp) ?pure fun H0 g hf => ?_
  case pure => exact .v _
  rw [frame0_of]
  change wpA _ _ _ _ (Fr.of [(0, .agg [.sl .no 4 (a0.Clauses.map Clause.cells), .v (.int .i64 a0.Loan)]), (1, .sl .no 1 (a1.map cI))]) H0 g
  have hS := St.start hf
  refine r_seq ?_
  refine r_region (n := 2) rfl ?_
  refine o_box (v := .agg [.sl .no 4 (a0.Clauses.map Clause.cells), .v (.int .i64 a0.Loan)]) (cs := [.sl .no 4 (a0.Clauses.map Clause.cells), .v (.int .i64 a0.Loan)]) hS (by decide) rfl rfl (by omega) fun H hS => ?_
  refine o_assign (v := .v (.bool false)) (by decide) rfl ?_
  refine run_nil ?_
  refine w_next [(1, .sl .no 1 (a1.map cI)), (2, .ptr (g + 0) 0)] (.cons (.refl _) (.cons (.refl _) .nil)) ?_
  refine w_join (J := Unit) (fun j => [(1, .sl .no 1 (a1.map cI)), (2, .ptr (g + 0) 0)]) (fun j H' g' => St (· < g) H0 [(g + 0, .cells [.sl .no 4 (a0.Clauses.map Clause.cells), .v (.int .i64 a0.Loan)])] H' g' ∧ ref09_IsOrder_j1 a0 a1 = some r) ?_ ?_
  · rintro _ H g1 ⟨hS, hM⟩
    change wpA _ _ _ _ (Fr.of [(1, .sl .no 1 (a1.map cI)), (2, .ptr (g + 0) 0)]) _ _
    replace hS : St (· < g) H0 [(g + 0, .cells [.sl .no 4 (a0.Clauses.map Clause.cells), .v (.int .i64 a0.Loan)])] H g1 := hS
    replace hM : ref09_IsOrder_j1 a0 a1 = some r := hM
    refine r_seq ?_
    refine r_region (n := 7) rfl ?_
    refine o_move (v := .sl .no 1 (a1.map cI)) (by decide) rfl ?_
    refine o_len (n := a1.length) (by decide) rfl (List.length_map _) ty_isl28 ?_
    refine o_fieldP (by decide) ty_fo24_0 rfl ?_
    refine o_load (v := .sl .no 4 (a0.Clauses.map Clause.cells)) 0 hS (by decide) rfl rfl .no (part_one ty_agg22 ty_sc22 rfl) ?_
    refine o_len (n := a0.Clauses.length) (by decide) rfl (List.length_map _) ty_isl22 ?_
    refine o_int (v := .v (.bool ((a1.length : Int) == (a0.Clauses.length : Int)))) (by decide) rfl rfl rfl ?_
    refine o_assign (v := .v (.bool ((a1.length : Int) == (a0.Clauses.length : Int)))) (by decide) rfl ?_
    refine run_nil ?_
    replace hS := hS.keep (L' := []) [false] rfl
    refine w_next [(4, .v (.bool ((a1.length : Int) == (a0.Clauses.length : Int))))] (.cons (.refl _) .nil) ?_
    refine r_ret ?_
    refine w_end (x := .v (.bool ((a1.length : Int) == (a0.Clauses.length : Int)))) (f := fun r => .v (.bool r)) (.inr rfl) ?_ (.refl _) (Option.some.inj hM) hS
    exact (res_one (res_tmp (x := .v (.bool ((a1.length : Int) == (a0.Clauses.length : Int)))) rfl))
  · refine r_seq ?_
    refine r_region (n := 1) rfl ?_
    refine o_assign (v := .v (.int .i64 0)) (by decide) rfl ?_
    refine run_nil ?_
    refine w_next [(1, .sl .no 1 (a1.map cI)), (2, .ptr (g + 0) 0), (5, .v (.int .i64 0))] (.cons (.refl _) (.cons (.refl _) (.cons (.refl _) .nil))) ?_
    refine r_block ?_
    refine w_loop (V := Int) (fun v => [(1, .sl .no 1 (a1.map cI)), (2, .ptr (g + 0) 0), (5, .v (.int .i64 v))]) (fun v m H' g' => St (· < g) H0 [(g + 0, .cells [.sl .no 4 (a0.Clauses.map Clause.cells), .v (.int .i64 a0.Loan)])] H' g' ∧ ref09_IsOrder_l1 n a0 a1 m v = some r) (n := n) 0 (.cons (.refl _) (.cons (.refl _) (.cons (.refl _) .nil))) ⟨(hS.keep [true] rfl).up (by omega), hM⟩ ?_
    rintro v1 m H g2 ⟨hS, hM⟩
    obtain _ | m := m
    · exact nomatch (show none = some _ from hM)
    change wpA _ _ _ _ (Fr.of [(1, .sl .no 1 (a1.map cI)), (2, .ptr (g + 0) 0), (5, .v (.int .i64 v1))]) _ _
    replace hS : St (· < g) H0 [(g + 0, .cells [.sl .no 4 (a0.Clauses.map Clause.cells), .v (.int .i64 a0.Loan)])] H g2 := hS
    replace hM : ref09_IsOrder_l1_b n a0 a1 (ref09_IsOrder_l1 n a0 a1 m) v1 = some r := hM
    refine r_seq ?_
    refine r_seq ?_
    refine r_region (n := 5) rfl ?_
    refine o_move (v := .v (.int .i64 v1)) (by decide) rfl ?_
    refine o_fieldP (by decide) ty_fo24_0 rfl ?_
    refine o_load (v := .sl .no 4 (a0.Clauses.map Clause.cells)) 0 hS (by decide) rfl rfl .no (part_one ty_agg22 ty_sc22 rfl) ?_
    refine o_len (n := a0.Clauses.length) (by decide) rfl (List.length_map _) ty_isl22 ?_
    refine o_int (v := .v (.bool (decide (v1 < (a0.Clauses.length : Int))))) (by decide) rfl rfl rfl ?_
    refine run_nil ?_
    refine w_next [(1, .sl .no 1 (a1.map cI)), (2, .ptr (g + 0) 0), (5, .v (.int .i64 v1)), (10, .v (.bool (decide (v1 < (a0.Clauses.length : Int)))))] (.cons (.refl _) (.cons (.refl _) (.cons (.refl _) (.cons (.refl _) .nil)))) ?_
    rcases Bool.eq_false_or_eq_true (decide (v1 < (a0.Clauses.length : Int))) with hb2 | hb2
    · replace hM := ifT hM hb2
      refine w_condT (e := (decide (v1 < (a0.Clauses.length : Int)))) rfl hb2 ?_
      refine r_skip ?_
      refine w_next [(1, .sl .no 1 (a1.map cI)), (2, .ptr (g + 0) 0), (5, .v (.int .i64 v1))] (.cons (.refl _) (.cons (.refl _) (.cons (.refl _) .nil))) ?_
      refine r_seq ?_
      refine r_block ?_
      refine r_seq ?_
      refine r_region (n := 4) rfl ?_
      refine o_move (v := .sl .no 1 (a1.map cI)) (by decide) rfl ?_
      refine o_move (v := .v (.int .i64 v1)) (by decide) rfl ?_
      obtain ⟨r3, hr3, hM⟩ := bindE hM
      refine o_call (bs := [.sl .no 1 (a1.map cI), .v (.int .i64 v1)]) (by decide) rfl rfl ((W_ref01_In hr3).le (.cons (.refl _) (.cons (.refl _) .nil))) ?_
      refine o_not (e := r3) (by decide) rfl ?_
      refine run_nil ?_
      refine w_next [(1, .sl .no 1 (a1.map cI)), (2, .ptr (g + 0) 0), (5, .v (.int .i64 v1)), (16, .v (.bool (!r3)))] (.cons (.refl _) (.cons (.refl _) (.cons (.refl _) (.cons (.refl _) .nil)))) ?_
      rcases Bool.eq_false_or_eq_true (!r3) with hb4 | hb4
      · replace hM := ifT hM hb4
        refine w_condT (e := (!r3)) rfl hb4 ?_
        refine r_seq ?_
        refine r_region (n := 1) rfl ?_
        refine o_assign (v := .v (.bool false)) (by decide) rfl ?_
        refine run_nil ?_
        replace hS := hS.keep (L' := []) [false] rfl
        refine w_next [(4, .v (.bool false))] (.cons (.refl _) .nil) ?_
        refine r_ret ?_
        refine r_blk_ret ?_
        refine r_then_ret ?_
        refine w_round_ret ?_
        refine r_blk_ret ?_
        refine w_goto_ret ?_
        refine w_end (x := .v (.bool false)) (f := fun r => .v (.bool r)) (.inr rfl) ?_ (.refl _) (Option.some.inj hM) hS
        exact (res_one (res_tmp (x := .v (.bool false)) rfl))
      · replace hM := ifF hM hb4
        refine w_condF (e := (!r3)) rfl hb4 ?_
        refine r_skip ?_
        refine r_blk_normal ?_
        refine w_next [(1, .sl .no 1 (a1.map cI)), (2, .ptr (g + 0) 0), (5, .v (.int .i64 v1))] (.cons (.refl _) (.cons (.refl _) (.cons (.refl _) .nil))) ?_
        refine r_region (n := 3) rfl ?_
        refine o_move (v := .v (.int .i64 v1)) (by decide) rfl ?_
        refine o_int (v := .v (.int .i64 (w64 (v1 + 1)))) (by decide) rfl rfl rfl ?_
        refine o_assign (v := .v (.int .i64 (w64 (v1 + 1)))) (by decide) rfl ?_
        refine run_nil ?_
        exact w_round (w64 (v1 + 1)) (Nat.lt_succ_self _) (.cons (.refl _) (.cons (.refl _) (.cons (.refl _) .nil))) ⟨(hS.keep [true] rfl).up (by omega), hM⟩
    · replace hM := ifF hM hb2
      refine w_condF (e := (decide (v1 < (a0.Clauses.length : Int)))) rfl hb2 ?_
      refine r_exit ?_
      refine r_then_exit ?_
      refine w_round_exit ?_
      refine r_blk_exit ?_
      exact w_goto () (.cons (.refl _) (.cons (.refl _) .nil)) ⟨(hS.keep [true] rfl).up (by omega), hM⟩
theorem W_law09_SharesOrder {n : Nat} {a0 : Share} {a1 : Int} {a2 : List Int} {r : Bool} (hM : law09_SharesOrder n a0 a1 a2 = some r) : PureSat Try.prog 5 [.agg [.sl .no 4 (a0.Clauses.map Clause.cells), .v (.int .i64 a0.Loan)], .v (.int .i64 a1), .sl .no 1 (a2.map cI)] (.v (.bool r)) := by
  refine pure_of_wp mixed Try.func5 rfl (by decide) Try.ntmps5 (by simp) ?pure fun H0 g hf => ?_
  case pure => exact .v _
  rw [frame0_of]
  change wpA _ _ _ _ (Fr.of [(0, .agg [.sl .no 4 (a0.Clauses.map Clause.cells), .v (.int .i64 a0.Loan)]), (1, .v (.int .i64 a1)), (2, .sl .no 1 (a2.map cI))]) H0 g
  have hS := St.start hf
  refine r_seq ?_
  refine r_region (n := 2) rfl ?_
  refine o_box (v := .agg [.sl .no 4 (a0.Clauses.map Clause.cells), .v (.int .i64 a0.Loan)]) (cs := [.sl .no 4 (a0.Clauses.map Clause.cells), .v (.int .i64 a0.Loan)]) hS (by decide) rfl rfl (by omega) fun H hS => ?_
  refine o_assign (v := .v (.bool false)) (by decide) rfl ?_
  refine run_nil ?_
  refine w_next [(1, .v (.int .i64 a1)), (2, .sl .no 1 (a2.map cI)), (3, .ptr (g + 0) 0)] (.cons (.refl _) (.cons (.refl _) (.cons (.refl _) .nil))) ?_
  refine r_seq ?_
  refine w_join (J := Bool) (fun j => [(1, .v (.int .i64 a1)), (2, .sl .no 1 (a2.map cI)), (3, .ptr (g + 0) 0), (32, .v (.bool j))]) (fun j H' g' => St (· < g) H0 [(g + 0, .cells [.sl .no 4 (a0.Clauses.map Clause.cells), .v (.int .i64 a0.Loan)])] H' g' ∧ law09_SharesOrder_j1 n a0 a1 a2 j = some r) ?_ ?_
  · rintro v1 H g1 ⟨hS, hM⟩
    change wpA _ _ _ _ (Fr.of [(1, .v (.int .i64 a1)), (2, .sl .no 1 (a2.map cI)), (3, .ptr (g + 0) 0), (32, .v (.bool v1))]) _ _
    replace hS : St (· < g) H0 [(g + 0, .cells [.sl .no 4 (a0.Clauses.map Clause.cells), .v (.int .i64 a0.Loan)])] H g1 := hS
    replace hM : law09_SharesOrder_j1 n a0 a1 a2 v1 = some r := hM
    rcases Bool.eq_false_or_eq_true v1 with hb2 | hb2
    · replace hM := ifT hM hb2
      refine w_condT (e := v1) rfl hb2 ?_
      refine r_seq ?_
      refine r_region (n := 2) rfl ?_
      obtain ⟨r3, hr3, hM⟩ := bindE hM
      refine o_call (bs := []) (by decide) rfl rfl ((W_law09_works hr3).le .nil) ?_
      refine o_assign (v := .v (.bool r3)) (by decide) rfl ?_
      refine run_nil ?_
      replace hS := hS.keep (L' := []) [false] rfl
      refine w_next [(6, .v (.bool r3))] (.cons (.refl _) .nil) ?_
      refine r_ret ?_
      refine r_then_ret ?_
      refine w_end (x := .v (.bool r3)) (f := fun r => .v (.bool r)) (.inr rfl) ?_ (.refl _) (Option.some.inj hM) hS
      exact (res_one (res_tmp (x := .v (.bool r3)) rfl))
    · replace hM := ifF hM hb2
      refine w_condF (e := v1) rfl hb2 ?_
      refine r_skip ?_
      refine w_next [(1, .v (.int .i64 a1)), (2, .sl .no 1 (a2.map cI)), (3, .ptr (g + 0) 0)] (.cons (.refl _) (.cons (.refl _) (.cons (.refl _) .nil))) ?_
      refine r_seq ?_
      refine r_region (n := 8) rfl ?_
      refine o_load (v := .agg [.sl .no 4 (a0.Clauses.map Clause.cells), .v (.int .i64 a0.Loan)]) 0 hS (by decide) rfl rfl .no (part_agg ty_agg24 (Nat.le_of_ble_eq_true rfl) rfl) ?_
      refine o_move (v := .v (.int .i64 a1)) (by decide) rfl ?_
      obtain ⟨r4, hr4, hM⟩ := bindE hM
      refine o_call (bs := [.agg [.sl .no 4 (a0.Clauses.map Clause.cells), .v (.int .i64 a0.Loan)], .v (.int .i64 a1)]) (by decide) rfl rfl ((W_shares_Best hr4).le (.cons (.refl _) (.cons (.refl _) .nil))) ?_
      refine o_move (v := .tup [.sl .no 1 (r4.1.map cI), .v (.int .i64 r4.2)]) (by decide) rfl ?_
      refine o_extract (v := .sl .no 1 (r4.1.map cI)) (by decide) rfl rfl ?_
      refine o_extract (v := .v (.int .i64 r4.2)) (by decide) rfl rfl ?_
      refine o_assign (v := .sl .no 1 (r4.1.map cI)) (by decide) rfl ?_
      refine o_assign (v := .v (.int .i64 r4.2)) (by decide) rfl ?_
      refine run_nil ?_
      refine w_next [(1, .v (.int .i64 a1)), (2, .sl .no 1 (a2.map cI)), (3, .ptr (g + 0) 0), (7, .sl .no 1 (r4.1.map cI)), (8, .v (.int .i64 r4.2))] (.cons (.refl _) (.cons (.refl _) (.cons (.refl _) (.cons (.refl _) (.cons (.refl _) .nil))))) ?_
      refine r_seq ?_
      refine w_join (J := Bool) (fun j => [(1, .v (.int .i64 a1)), (2, .sl .no 1 (a2.map cI)), (3, .ptr (g + 0) 0), (7, .sl .no 1 (r4.1.map cI)), (52, .v (.bool j))]) (fun j H' g' => St (· < g) H0 [(g + 0, .cells [.sl .no 4 (a0.Clauses.map Clause.cells), .v (.int .i64 a0.Loan)])] H' g' ∧ law09_SharesOrder_j2 n a0 a1 a2 r4 j = some r) ?_ ?_
      · rintro v5 H g2 ⟨hS, hM⟩
        change wpA _ _ _ _ (Fr.of [(1, .v (.int .i64 a1)), (2, .sl .no 1 (a2.map cI)), (3, .ptr (g + 0) 0), (7, .sl .no 1 (r4.1.map cI)), (52, .v (.bool v5))]) _ _
        replace hS : St (· < g) H0 [(g + 0, .cells [.sl .no 4 (a0.Clauses.map Clause.cells), .v (.int .i64 a0.Loan)])] H g2 := hS
        replace hM : law09_SharesOrder_j2 n a0 a1 a2 r4 v5 = some r := hM
        rcases Bool.eq_false_or_eq_true v5 with hb6 | hb6
        · replace hM := ifT hM hb6
          refine w_condT (e := v5) rfl hb6 ?_
          refine r_seq ?_
          refine r_region (n := 1) rfl ?_
          refine o_assign (v := .v (.bool false)) (by decide) rfl ?_
          refine run_nil ?_
          replace hS := hS.keep (L' := []) [false] rfl
          refine w_next [(6, .v (.bool false))] (.cons (.refl _) .nil) ?_
          refine r_ret ?_
          refine r_then_ret ?_
          refine w_end (x := .v (.bool false)) (f := fun r => .v (.bool r)) (.inr rfl) ?_ (.refl _) (Option.some.inj hM) hS
          exact (res_one (res_tmp (x := .v (.bool false)) rfl))
        · replace hM := ifF hM hb6
          refine w_condF (e := v5) rfl hb6 ?_
          refine r_skip ?_
          refine w_next [(1, .v (.int .i64 a1)), (2, .sl .no 1 (a2.map cI)), (3, .ptr (g + 0) 0), (7, .sl .no 1 (r4.1.map cI))] (.cons (.refl _) (.cons (.refl _) (.cons (.refl _) (.cons (.refl _) .nil)))) ?_
          refine r_seq ?_
          refine r_region (n := 11) rfl ?_
          refine o_load (v := .agg [.sl .no 4 (a0.Clauses.map Clause.cells), .v (.int .i64 a0.Loan)]) 0 hS (by decide) rfl rfl .no (part_agg ty_agg24 (Nat.le_of_ble_eq_true rfl) rfl) ?_
          refine o_move (v := .sl .no 1 (a2.map cI)) (by decide) rfl ?_
          obtain ⟨r7, hr7, hM⟩ := bindE hM
          refine o_call (bs := [.agg [.sl .no 4 (a0.Clauses.map Clause.cells), .v (.int .i64 a0.Loan)], .sl .no 1 (a2.map cI)]) (by decide) rfl rfl ((W_ref09_Ordered hr7).le (.cons (.refl _) (.cons (.refl _) .nil))) ?_
          refine o_move (v := .v (.int .i64 a1)) (by decide) rfl ?_
          obtain ⟨r8, hr8, hM⟩ := bindE hM
          refine o_call (bs := [.agg [.sl .no 4 (r7.Clauses.map Clause.cells), .v (.int .i64 r7.Loan)], .v (.int .i64 a1)]) (by decide) rfl rfl ((W_shares_Week hr8).le (.cons (.refl _) (.cons (.refl _) .nil))) ?_
          refine o_move (v := .tup [.agg [.v (.int .i64 r8.1.Operator), .v (.int .i64 r8.1.Owner), .v (.int .i64 r8.1.Repaid)], .v (.int .i64 r8.2)]) (by decide) rfl ?_
          refine o_extract (v := .agg [.v (.int .i64 r8.1.Operator), .v (.int .i64 r8.1.Owner), .v (.int .i64 r8.1.Repaid)]) (by decide) rfl rfl ?_
          refine o_extract (v := .v (.int .i64 r8.2)) (by decide) rfl rfl ?_
          refine o_alloc hS (by decide) ty_zero41 (by omega) fun H hS => ?_
          refine o_store (v := .agg [.v (.int .i64 r8.1.Operator), .v (.int .i64 r8.1.Owner), .v (.int .i64 r8.1.Repaid)]) (ns := [.v (.int .i64 r8.1.Operator), .v (.int .i64 r8.1.Owner), .v (.int .i64 r8.1.Repaid)]) (L' := [(g2 + 8, .cells [.v (.int .i64 r8.1.Operator), .v (.int .i64 r8.1.Owner), .v (.int .i64 r8.1.Repaid)]), (g + 0, .cells [.sl .no 4 (a0.Clauses.map Clause.cells), .v (.int .i64 a0.Loan)])]) 0 hS rfl rfl .no rfl rfl ty_var41 (Nat.le_of_ble_eq_true rfl) rfl fun H hS => ?_
          refine o_assign (v := .v (.int .i64 r8.2)) (by decide) rfl ?_
          refine run_nil ?_
          refine w_next [(1, .v (.int .i64 a1)), (2, .sl .no 1 (a2.map cI)), (3, .ptr (g + 0) 0), (7, .sl .no 1 (r4.1.map cI)), (9, .ptr (g2 + 8) 0), (10, .v (.int .i64 r8.2))] (.cons (.refl _) (.cons (.refl _) (.cons (.refl _) (.cons (.refl _) (.cons (.refl _) (.cons (.refl _) .nil)))))) ?_
          refine r_seq ?_
          refine r_region (n := 11) rfl ?_
          refine o_load (v := .agg [.sl .no 4 (a0.Clauses.map Clause.cells), .v (.int .i64 a0.Loan)]) 1 hS (by decide) rfl rfl .no (part_agg ty_agg24 (Nat.le_of_ble_eq_true rfl) rfl) ?_
          refine o_move (v := .sl .no 1 (r4.1.map cI)) (by decide) rfl ?_
          obtain ⟨r9, hr9, hM⟩ := bindE hM
          refine o_call (bs := [.agg [.sl .no 4 (a0.Clauses.map Clause.cells), .v (.int .i64 a0.Loan)], .sl .no 1 (r4.1.map cI)]) (by decide) rfl rfl ((W_ref09_Ordered hr9).le (.cons (.refl _) (.cons (.refl _) .nil))) ?_
          refine o_move (v := .v (.int .i64 a1)) (by decide) rfl ?_
          obtain ⟨r10, hr10, hM⟩ := bindE hM
          refine o_call (bs := [.agg [.sl .no 4 (r9.Clauses.map Clause.cells), .v (.int .i64 r9.Loan)], .v (.int .i64 a1)]) (by decide) rfl rfl ((W_shares_Week hr10).le (.cons (.refl _) (.cons (.refl _) .nil))) ?_
          refine o_move (v := .tup [.agg [.v (.int .i64 r10.1.Operator), .v (.int .i64 r10.1.Owner), .v (.int .i64 r10.1.Repaid)], .v (.int .i64 r10.2)]) (by decide) rfl ?_
          refine o_extract (v := .agg [.v (.int .i64 r10.1.Operator), .v (.int .i64 r10.1.Owner), .v (.int .i64 r10.1.Repaid)]) (by decide) rfl rfl ?_
          refine o_extract (v := .v (.int .i64 r10.2)) (by decide) rfl rfl ?_
          refine o_alloc hS (by decide) ty_zero41 (by omega) fun H hS => ?_
          refine o_store (v := .agg [.v (.int .i64 r10.1.Operator), .v (.int .i64 r10.1.Owner), .v (.int .i64 r10.1.Repaid)]) (ns := [.v (.int .i64 r10.1.Operator), .v (.int .i64 r10.1.Owner), .v (.int .i64 r10.1.Repaid)]) (L' := [(g2 + 11 + 8, .cells [.v (.int .i64 r10.1.Operator), .v (.int .i64 r10.1.Owner), .v (.int .i64 r10.1.Repaid)]), (g2 + 8, .cells [.v (.int .i64 r8.1.Operator), .v (.int .i64 r8.1.Owner), .v (.int .i64 r8.1.Repaid)]), (g + 0, .cells [.sl .no 4 (a0.Clauses.map Clause.cells), .v (.int .i64 a0.Loan)])]) 0 hS rfl rfl .no rfl rfl ty_var41 (Nat.le_of_ble_eq_true rfl) rfl fun H hS => ?_
          refine o_assign (v := .v (.int .i64 r10.2)) (by decide) rfl ?_
          refine run_nil ?_
          replace hS := hS.keep (L' := [(g2 + 11 + 8, .cells [.v (.int .i64 r10.1.Operator), .v (.int .i64 r10.1.Owner), .v (.int .i64 r10.1.Repaid)]), (g2 + 8, .cells [.v (.int .i64 r8.1.Operator), .v (.int .i64 r8.1.Owner), .v (.int .i64 r8.1.Repaid)])]) [true, true, false] rfl
          refine w_next [(2, .sl .no 1 (a2.map cI)), (7, .sl .no 1 (r4.1.map cI)), (9, .ptr (g2 + 8) 0), (10, .v (.int .i64 r8.2)), (11, .ptr (g2 + 11 + 8) 0), (12, .v (.int .i64 r10.2))] (.cons (.refl _) (.cons (.refl _) (.cons (.refl _) (.cons (.refl _) (.cons (.refl _) (.cons (.refl _) .nil)))))) ?_
          refine r_seq ?_
          refine w_join (J := Bool) (fun j => [(2, .sl .no 1 (a2.map cI)), (7, .sl .no 1 (r4.1.map cI)), (9, .ptr (g2 + 8) 0), (11, .ptr (g2 + 11 + 8) 0), (81, .v (.bool j))]) (fun j H' g' => St (· < g) H0 [(g2 + 11 + 8, .cells [.v (.int .i64 r10.1.Operator), .v (.int .i64 r10.1.Owner), .v (.int .i64 r10.1.Repaid)]), (g2 + 8, .cells [.v (.int .i64 r8.1.Operator), .v (.int .i64 r8.1.Owner), .v (.int .i64 r8.1.Repaid)])] H' g' ∧ law09_SharesOrder_j3 n a2 r4 r8 r10 j = some r) ?_ ?_
          · rintro v11 H g3 ⟨hS, hM⟩
            change wpA _ _ _ _ (Fr.of [(2, .sl .no 1 (a2.map cI)), (7, .sl .no 1 (r4.1.map cI)), (9, .ptr (g2 + 8) 0), (11, .ptr (g2 + 11 + 8) 0), (81, .v (.bool v11))]) _ _
            replace hS : St (· < g) H0 [(g2 + 11 + 8, .cells [.v (.int .i64 r10.1.Operator), .v (.int .i64 r10.1.Owner), .v (.int .i64 r10.1.Repaid)]), (g2 + 8, .cells [.v (.int .i64 r8.1.Operator), .v (.int .i64 r8.1.Owner), .v (.int .i64 r8.1.Repaid)])] H g3 := hS
            replace hM : law09_SharesOrder_j3 n a2 r4 r8 r10 v11 = some r := hM
            rcases Bool.eq_false_or_eq_true v11 with hb12 | hb12
            · replace hM := ifT hM hb12
              refine w_condT (e := v11) rfl hb12 ?_
              refine r_seq ?_
              refine r_region (n := 1) rfl ?_
              refine o_assign (v := .v (.bool false)) (by decide) rfl ?_
              refine run_nil ?_
              replace hS := hS.keep (L' := []) [false, false] rfl
              refine w_next [(6, .v (.bool false))] (.cons (.refl _) .nil) ?_
              refine r_ret ?_
              refine r_then_ret ?_
              refine w_end (x := .v (.bool false)) (f := fun r => .v (.bool r)) (.inr rfl) ?_ (.refl _) (Option.some.inj hM) hS
              exact (res_one (res_tmp (x := .v (.bool false)) rfl))
            · replace hM := ifF hM hb12
              refine w_condF (e := v11) rfl hb12 ?_
              refine r_skip ?_
              refine w_next [(2, .sl .no 1 (a2.map cI)), (7, .sl .no 1 (r4.1.map cI)), (9, .ptr (g2 + 8) 0), (11, .ptr (g2 + 11 + 8) 0)] (.cons (.refl _) (.cons (.refl _) (.cons (.refl _) (.cons (.refl _) .nil)))) ?_
              refine w_join (J := Unit) (fun j => []) (fun j H' g' => St (· < g) H0 [] H' g' ∧ law09_SharesOrder_j4 n = some r) ?_ ?_
              · rintro _ H g4 ⟨hS, hM⟩
                change wpA _ _ _ _ (Fr.of []) _ _
                replace hS : St (· < g) H0 [] H g4 := hS
                replace hM : law09_SharesOrder_j4 n = some r := hM
                refine r_seq ?_
                refine r_region (n := 2) rfl ?_
                obtain ⟨r13, hr13, hM⟩ := bindE hM
                refine o_call (bs := []) (by decide) rfl rfl ((W_law09_works hr13).le .nil) ?_
                refine o_assign (v := .v (.bool r13)) (by decide) rfl ?_
                refine run_nil ?_
                refine w_next [(6, .v (.bool r13))] (.cons (.refl _) .nil) ?_
                refine r_ret ?_
                refine w_end (x := .v (.bool r13)) (f := fun r => .v (.bool r)) (.inr rfl) ?_ (.refl _) (Option.some.inj hM) hS
                exact (res_one (res_tmp (x := .v (.bool r13)) rfl))
              · refine r_seq ?_
                refine r_region (n := 1) rfl ?_
                refine o_assign (v := .v (.int .i64 0)) (by decide) rfl ?_
                refine run_nil ?_
                refine w_next [(2, .sl .no 1 (a2.map cI)), (7, .sl .no 1 (r4.1.map cI)), (9, .ptr (g2 + 8) 0), (11, .ptr (g2 + 11 + 8) 0), (13, .v (.int .i64 0))] (.cons (.refl _) (.cons (.refl _) (.cons (.refl _) (.cons (.refl _) (.cons (.refl _) .nil))))) ?_
                refine r_block ?_
                refine w_loop (V := Int) (fun v => [(2, .sl .no 1 (a2.map cI)), (7, .sl .no 1 (r4.1.map cI)), (9, .ptr (g2 + 8) 0), (11, .ptr (g2 + 11 + 8) 0), (13, .v (.int .i64 v))]) (fun v m H' g' => St (· < g) H0 [(g2 + 11 + 8, .cells [.v (.int .i64 r10.1.Operator), .v (.int .i64 r10.1.Owner), .v (.int .i64 r10.1.Repaid)]), (g2 + 8, .cells [.v (.int .i64 r8.1.Operator), .v (.int .i64 r8.1.Owner), .v (.int .i64 r8.1.Repaid)])] H' g' ∧ law09_SharesOrder_l1 n a2 r4 r8 r10 m v = some r) (n := n) 0 (.cons (.refl _) (.cons (.refl _) (.cons (.refl _) (.cons (.refl _) (.cons (.refl _) .nil))))) ⟨(hS.keep [true, true] rfl).up (by omega), hM⟩ ?_
                rintro v14 m H g5 ⟨hS, hM⟩
                obtain _ | m := m
                · exact nomatch (show none = some _ from hM)
                change wpA _ _ _ _ (Fr.of [(2, .sl .no 1 (a2.map cI)), (7, .sl .no 1 (r4.1.map cI)), (9, .ptr (g2 + 8) 0), (11, .ptr (g2 + 11 + 8) 0), (13, .v (.int .i64 v14))]) _ _
                replace hS : St (· < g) H0 [(g2 + 11 + 8, .cells [.v (.int .i64 r10.1.Operator), .v (.int .i64 r10.1.Owner), .v (.int .i64 r10.1.Repaid)]), (g2 + 8, .cells [.v (.int .i64 r8.1.Operator), .v (.int .i64 r8.1.Owner), .v (.int .i64 r8.1.Repaid)])] H g5 := hS
                replace hM : law09_SharesOrder_l1_b n a2 r4 r8 r10 (law09_SharesOrder_l1 n a2 r4 r8 r10 m) v14 = some r := hM
                refine r_seq ?_
                refine w_join (J := Bool) (fun j => [(2, .sl .no 1 (a2.map cI)), (7, .sl .no 1 (r4.1.map cI)), (9, .ptr (g2 + 8) 0), (11, .ptr (g2 + 11 + 8) 0), (13, .v (.int .i64 v14)), (92, .v (.bool j))]) (fun j H' g' => St (· < g) H0 [(g2 + 11 + 8, .cells [.v (.int .i64 r10.1.Operator), .v (.int .i64 r10.1.Owner), .v (.int .i64 r10.1.Repaid)]), (g2 + 8, .cells [.v (.int .i64 r8.1.Operator), .v (.int .i64 r8.1.Owner), .v (.int .i64 r8.1.Repaid)])] H' g' ∧ law09_SharesOrder_j5 n (law09_SharesOrder_l1 n a2 r4 r8 r10 m) a2 r4 v14 j = some r) ?_ ?_
                · rintro v15 H g6 ⟨hS, hM⟩
                  change wpA _ _ _ _ (Fr.of [(2, .sl .no 1 (a2.map cI)), (7, .sl .no 1 (r4.1.map cI)), (9, .ptr (g2 + 8) 0), (11, .ptr (g2 + 11 + 8) 0), (13, .v (.int .i64 v14)), (92, .v (.bool v15))]) _ _
                  replace hS : St (· < g) H0 [(g2 + 11 + 8, .cells [.v (.int .i64 r10.1.Operator), .v (.int .i64 r10.1.Owner), .v (.int .i64 r10.1.Repaid)]), (g2 + 8, .cells [.v (.int .i64 r8.1.Operator), .v (.int .i64 r8.1.Owner), .v (.int .i64 r8.1.Repaid)])] H g6 := hS
                  replace hM : law09_SharesOrder_j5 n (law09_SharesOrder_l1 n a2 r4 r8 r10 m) a2 r4 v14 v15 = some r := hM
                  rcases Bool.eq_false_or_eq_true v15 with hb16 | hb16
                  · replace hM := ifT hM hb16
                    refine w_condT (e := v15) rfl hb16 ?_
                    refine r_skip ?_
                    refine w_next [(2, .sl .no 1 (a2.map cI)), (7, .sl .no 1 (r4.1.map cI)), (9, .ptr (g2 + 8) 0), (11, .ptr (g2 + 11 + 8) 0), (13, .v (.int .i64 v14))] (.cons (.refl _) (.cons (.refl _) (.cons (.refl _) (.cons (.refl _) (.cons (.refl _) .nil))))) ?_
                    refine r_seq ?_
                    refine r_block ?_
                    refine r_seq ?_
                    have hS0 := hS
                    refine r_draw (n := 9) rfl (by kernel_rfl) ?_
                    refine o_move (v := .sl .no 1 (r4.1.map cI)) (by decide) rfl ?_
                    refine o_move (v := .v (.int .i64 v14)) (by decide) rfl ?_
                    obtain ⟨x17, hx17, hM⟩ := bindE hM
                    refine o_index (xs := r4.1) (f := cI) (z := v14) (u := x17) (by decide) rfl rfl ty_es28 hx17 ?_
                    refine o_loadE (v := .v (.int .i64 x17)) (by decide) rfl (part_one ty_agg3 ty_sc3 rfl) ?_
                    refine o_move (v := .sl .no 1 (a2.map cI)) (by decide) rfl ?_
                    refine o_move (v := .v (.int .i64 v14)) (by decide) rfl ?_
                    obtain ⟨x18, hx18, hM⟩ := bindE hM
                    refine o_index (xs := a2) (f := cI) (z := v14) (u := x18) (by decide) rfl rfl ty_es28 hx18 ?_
                    refine o_loadE (v := .v (.int .i64 x18)) (by decide) rfl (part_one ty_agg3 ty_sc3 rfl) ?_
                    refine o_int (v := .v (.bool (x17 != x18))) (by decide) rfl rfl rfl ?_
                    refine run_nil ?_
                    refine w_next [(2, .sl .no 1 (a2.map cI)), (7, .sl .no 1 (r4.1.map cI)), (9, .ptr (g2 + 8) 0), (11, .ptr (g2 + 11 + 8) 0), (13, .v (.int .i64 v14)), (103, .v (.bool (x17 != x18)))] (.cons (.refl _) (.cons (.refl _) (.cons (.refl _) (.cons (.refl _) (.cons (.refl _) (.cons (.refl _) .nil)))))) ?_
                    rcases Bool.eq_false_or_eq_true (x17 != x18) with hb19 | hb19
                    · replace hM := ifT hM hb19
                      refine w_condT (e := (x17 != x18)) rfl hb19 ?_
                      refine w_join (J := Bool) (fun j => [(6, .v (.bool j))]) (fun j H' g' => St (· < g) H0 [] H' g' ∧ law09_SharesOrder_j6 j = some r) ?_ ?_
                      · rintro v20 H g7 ⟨hS, hM⟩
                        change wpA _ _ _ _ (Fr.of [(6, .v (.bool v20))]) _ _
                        replace hS : St (· < g) H0 [] H g7 := hS
                        replace hM : law09_SharesOrder_j6 v20 = some r := hM
                        refine r_ret ?_
                        refine r_blk_ret ?_
                        refine r_then_ret ?_
                        refine w_round_ret ?_
                        refine r_blk_ret ?_
                        refine w_goto_ret ?_
                        refine w_end (x := .v (.bool v20)) (f := fun r => .v (.bool r)) (.inr rfl) ?_ (.refl _) (Option.some.inj hM) hS
                        exact (res_one (res_tmp (x := .v (.bool v20)) rfl))
                      · have hS0 := hS
                        refine r_draw (n := 13) rfl (by kernel_rfl) ?_
                        refine o_move (v := .sl .no 1 (r4.1.map cI)) (by decide) rfl ?_
                        refine o_move (v := .v (.int .i64 v14)) (by decide) rfl ?_
                        obtain ⟨x21, hx21, hM⟩ := bindE hM
                        refine o_index (xs := r4.1) (f := cI) (z := v14) (u := x21) (by decide) rfl rfl ty_es28 hx21 ?_
                        refine o_loadE (v := .v (.int .i64 x21)) (by decide) rfl (part_one ty_agg3 ty_sc3 rfl) ?_
                        refine o_move (v := .sl .no 1 (a2.map cI)) (by decide) rfl ?_
                        refine o_move (v := .v (.int .i64 v14)) (by decide) rfl ?_
                        obtain ⟨x22, hx22, hM⟩ := bindE hM
                        refine o_index (xs := a2) (f := cI) (z := v14) (u := x22) (by decide) rfl rfl ty_es28 hx22 ?_
                        refine o_loadE (v := .v (.int .i64 x22)) (by decide) rfl (part_one ty_agg3 ty_sc3 rfl) ?_
                        refine o_int (v := .v (.bool (decide (x21 < x22)))) (by decide) rfl rfl rfl ?_
                        refine o_move (v := .v (.bool (decide (x21 < x22)))) (by decide) rfl ?_
                        rcases Bool.eq_false_or_eq_true (decide (x21 < x22)) with hb23 | hb23
                        · replace hM := ifT hM hb23
                          refine o_guardY (j := 9) (e := (decide (x21 < x22))) (want := true) rfl hb23 ?_
                          obtain ⟨r24, hr24, hM⟩ := bindE hM
                          refine o_call (bs := []) (by decide) rfl rfl ((W_law09_works hr24).le .nil) ?_
                          refine o_pickT (v := .v (.bool r24)) (e := (decide (x21 < x22))) (by decide) rfl hb23 rfl ?_
                          refine o_assign (v := .v (.bool r24)) (by decide) rfl ?_
                          refine run_nil ?_
                          exact w_goto r24 (.cons (.refl _) .nil) ⟨(hS.keep [false, false] rfl).up (by omega), hM⟩
                        · replace hM := ifF hM hb23
                          refine o_guardN (j := 9) (e := (decide (x21 < x22))) (want := true) (by decide) rfl hb23 ?_
                          refine o_pickF (v := .v (.bool false)) (e := (decide (x21 < x22))) (by decide) rfl hb23 rfl ?_
                          refine o_assign (v := .v (.bool false)) (by decide) rfl ?_
                          refine run_nil ?_
                          exact w_goto false (.cons (.refl _) .nil) ⟨(hS.keep [false, false] rfl).up (by omega), hM⟩
                    · replace hM := ifF hM hb19
                      refine w_condF (e := (x17 != x18)) rfl hb19 ?_
                      refine r_skip ?_
                      refine r_blk_normal ?_
                      refine w_next [(2, .sl .no 1 (a2.map cI)), (7, .sl .no 1 (r4.1.map cI)), (9, .ptr (g2 + 8) 0), (11, .ptr (g2 + 11 + 8) 0), (13, .v (.int .i64 v14))] (.cons (.refl _) (.cons (.refl _) (.cons (.refl _) (.cons (.refl _) (.cons (.refl _) .nil))))) ?_
                      refine r_region (n := 3) rfl ?_
                      refine o_move (v := .v (.int .i64 v14)) (by decide) rfl ?_
                      refine o_int (v := .v (.int .i64 (w64 (v14 + 1)))) (by decide) rfl rfl rfl ?_
                      refine o_assign (v := .v (.int .i64 (w64 (v14 + 1)))) (by decide) rfl ?_
                      refine run_nil ?_
                      exact w_round (w64 (v14 + 1)) (Nat.lt_succ_self _) (.cons (.refl _) (.cons (.refl _) (.cons (.refl _) (.cons (.refl _) (.cons (.refl _) .nil))))) ⟨(hS.keep [true, true] rfl).up (by omega), hM⟩
                  · replace hM := ifF hM hb16
                    refine w_condF (e := v15) rfl hb16 ?_
                    refine r_exit ?_
                    refine r_then_exit ?_
                    refine w_round_exit ?_
                    refine r_blk_exit ?_
                    exact w_goto () .nil ⟨(hS.keep [false, false] rfl).up (by omega), hM⟩
                · refine r_region (n := 11) rfl ?_
                  refine o_move (v := .v (.int .i64 v14)) (by decide) rfl ?_
                  refine o_move (v := .sl .no 1 (r4.1.map cI)) (by decide) rfl ?_
                  refine o_len (n := r4.1.length) (by decide) rfl (List.length_map _) ty_isl28 ?_
                  refine o_int (v := .v (.bool (decide (v14 < (r4.1.length : Int))))) (by decide) rfl rfl rfl ?_
                  refine o_move (v := .v (.bool (decide (v14 < (r4.1.length : Int))))) (by decide) rfl ?_
                  rcases Bool.eq_false_or_eq_true (decide (v14 < (r4.1.length : Int))) with hb25 | hb25
                  · replace hM := ifT hM hb25
                    refine o_guardY (j := 4) (e := (decide (v14 < (r4.1.length : Int)))) (want := true) rfl hb25 ?_
                    refine o_fieldP (by decide) ty_fo41_1 rfl ?_
                    refine o_guardY (j := 4) (e := (decide (v14 < (r4.1.length : Int)))) (want := true) rfl hb25 ?_
                    refine o_load (v := .v (.int .i64 r8.1.Owner)) 1 hS (by decide) rfl rfl .no (part_one ty_agg3 ty_sc3 rfl) ?_
                    refine o_guardY (j := 4) (e := (decide (v14 < (r4.1.length : Int)))) (want := true) rfl hb25 ?_
                    refine o_fieldP (by decide) ty_fo41_1 rfl ?_
                    refine o_guardY (j := 4) (e := (decide (v14 < (r4.1.length : Int)))) (want := true) rfl hb25 ?_
                    refine o_load (v := .v (.int .i64 r10.1.Owner)) 0 hS (by decide) rfl rfl .no (part_one ty_agg3 ty_sc3 rfl) ?_
                    refine o_guardY (j := 4) (e := (decide (v14 < (r4.1.length : Int)))) (want := true) rfl hb25 ?_
                    refine o_int (v := .v (.bool (r8.1.Owner == r10.1.Owner))) (by decide) rfl rfl rfl ?_
                    refine o_pickT (v := .v (.bool (r8.1.Owner == r10.1.Owner))) (e := (decide (v14 < (r4.1.length : Int)))) (by decide) rfl hb25 rfl ?_
                    refine run_nil ?_
                    exact w_goto (r8.1.Owner == r10.1.Owner) (.cons (.refl _) (.cons (.refl _) (.cons (.refl _) (.cons (.refl _) (.cons (.refl _) (.cons (.refl _) .nil)))))) ⟨(hS.keep [true, true] rfl).up (by omega), hM⟩
                  · replace hM := ifF hM hb25
                    refine o_guardN (j := 4) (e := (decide (v14 < (r4.1.length : Int)))) (want := true) (by decide) rfl hb25 ?_
                    refine o_guardN (j := 4) (e := (decide (v14 < (r4.1.length : Int)))) (want := true) (by decide) rfl hb25 ?_
                    refine o_guardN (j := 4) (e := (decide (v14 < (r4.1.length : Int)))) (want := true) (by decide) rfl hb25 ?_
                    refine o_guardN (j := 4) (e := (decide (v14 < (r4.1.length : Int)))) (want := true) (by decide) rfl hb25 ?_
                    refine o_guardN (j := 4) (e := (decide (v14 < (r4.1.length : Int)))) (want := true) (by decide) rfl hb25 ?_
                    refine o_pickF (v := .v (.bool false)) (e := (decide (v14 < (r4.1.length : Int)))) (by decide) rfl hb25 rfl ?_
                    refine run_nil ?_
                    exact w_goto false (.cons (.refl _) (.cons (.refl _) (.cons (.refl _) (.cons (.refl _) (.cons (.refl _) (.cons (.refl _) .nil)))))) ⟨(hS.keep [true, true] rfl).up (by omega), hM⟩
          · refine r_region (n := 13) rfl ?_
            refine o_move (v := .v (.int .i64 r8.2)) (by decide) rfl ?_
            refine o_int (v := .v (.bool (r8.2 != 0))) (by decide) rfl rfl rfl ?_
            refine o_move (v := .v (.bool (r8.2 != 0))) (by decide) rfl ?_
            rcases Bool.eq_false_or_eq_true (r8.2 != 0) with hb26 | hb26
            · replace hM := ifT hM hb26
              refine o_guardN (j := 2) (e := (r8.2 != 0)) (want := false) (by decide) rfl hb26 ?_
              refine o_guardN (j := 2) (e := (r8.2 != 0)) (want := false) (by decide) rfl hb26 ?_
              refine o_pickT (v := .v (.bool true)) (e := (r8.2 != 0)) (by decide) rfl hb26 rfl ?_
              refine o_move (v := .v (.bool true)) (by decide) rfl ?_
              refine o_guardN (j := 6) (e := true) (want := false) (by decide) rfl rfl ?_
              refine o_guardN (j := 6) (e := true) (want := false) (by decide) rfl rfl ?_
              refine o_guardN (j := 6) (e := true) (want := false) (by decide) rfl rfl ?_
              refine o_guardN (j := 6) (e := true) (want := false) (by decide) rfl rfl ?_
              refine o_guardN (j := 6) (e := true) (want := false) (by decide) rfl rfl ?_
              refine o_pickT (v := .v (.bool true)) (e := true) (by decide) rfl rfl rfl ?_
              refine run_nil ?_
              exact w_goto true (.cons (.refl _) (.cons (.refl _) (.cons (.refl _) (.cons (.refl _) (.cons (.refl _) .nil))))) ⟨(hS.keep [true, true] rfl).up (by omega), hM⟩
            · replace hM := ifF hM hb26
              refine o_guardY (j := 2) (e := (r8.2 != 0)) (want := false) rfl hb26 ?_
              refine o_move (v := .v (.int .i64 r10.2)) (by decide) rfl ?_
              refine o_guardY (j := 2) (e := (r8.2 != 0)) (want := false) rfl hb26 ?_
              refine o_int (v := .v (.bool (r10.2 != 0))) (by decide) rfl rfl rfl ?_
              refine o_pickF (v := .v (.bool (r10.2 != 0))) (e := (r8.2 != 0)) (by decide) rfl hb26 rfl ?_
              refine o_move (v := .v (.bool (r10.2 != 0))) (by decide) rfl ?_
              rcases Bool.eq_false_or_eq_true (r10.2 != 0) with hb27 | hb27
              · replace hM := ifT hM hb27
                refine o_guardN (j := 6) (e := (r10.2 != 0)) (want := false) (by decide) rfl hb27 ?_
                refine o_guardN (j := 6) (e := (r10.2 != 0)) (want := false) (by decide) rfl hb27 ?_
                refine o_guardN (j := 6) (e := (r10.2 != 0)) (want := false) (by decide) rfl hb27 ?_
                refine o_guardN (j := 6) (e := (r10.2 != 0)) (want := false) (by decide) rfl hb27 ?_
                refine o_guardN (j := 6) (e := (r10.2 != 0)) (want := false) (by decide) rfl hb27 ?_
                refine o_pickT (v := .v (.bool true)) (e := (r10.2 != 0)) (by decide) rfl hb27 rfl ?_
                refine run_nil ?_
                exact w_goto true (.cons (.refl _) (.cons (.refl _) (.cons (.refl _) (.cons (.refl _) (.cons (.refl _) .nil))))) ⟨(hS.keep [true, true] rfl).up (by omega), hM⟩
              · replace hM := ifF hM hb27
                refine o_guardY (j := 6) (e := (r10.2 != 0)) (want := false) rfl hb27 ?_
                refine o_fieldP (by decide) ty_fo41_1 rfl ?_
                refine o_guardY (j := 6) (e := (r10.2 != 0)) (want := false) rfl hb27 ?_
                refine o_load (v := .v (.int .i64 r8.1.Owner)) 1 hS (by decide) rfl rfl .no (part_one ty_agg3 ty_sc3 rfl) ?_
                refine o_guardY (j := 6) (e := (r10.2 != 0)) (want := false) rfl hb27 ?_
                refine o_fieldP (by decide) ty_fo41_1 rfl ?_
                refine o_guardY (j := 6) (e := (r10.2 != 0)) (want := false) rfl hb27 ?_
                refine o_load (v := .v (.int .i64 r10.1.Owner)) 0 hS (by decide) rfl rfl .no (part_one ty_agg3 ty_sc3 rfl) ?_
                refine o_guardY (j := 6) (e := (r10.2 != 0)) (want := false) rfl hb27 ?_
                refine o_int (v := .v (.bool (decide (r8.1.Owner > r10.1.Owner)))) (by decide) rfl rfl rfl ?_
                refine o_pickF (v := .v (.bool (decide (r8.1.Owner > r10.1.Owner)))) (e := (r10.2 != 0)) (by decide) rfl hb27 rfl ?_
                refine run_nil ?_
                exact w_goto (decide (r8.1.Owner > r10.1.Owner)) (.cons (.refl _) (.cons (.refl _) (.cons (.refl _) (.cons (.refl _) (.cons (.refl _) .nil))))) ⟨(hS.keep [true, true] rfl).up (by omega), hM⟩
      · refine r_region (n := 13) rfl ?_
        refine o_move (v := .v (.int .i64 r4.2)) (by decide) rfl ?_
        refine o_int (v := .v (.bool (r4.2 != 0))) (by decide) rfl rfl rfl ?_
        refine o_move (v := .v (.bool (r4.2 != 0))) (by decide) rfl ?_
        rcases Bool.eq_false_or_eq_true (r4.2 != 0) with hb28 | hb28
        · replace hM := ifT hM hb28
          refine o_guardN (j := 2) (e := (r4.2 != 0)) (want := false) (by decide) rfl hb28 ?_
          refine o_guardN (j := 2) (e := (r4.2 != 0)) (want := false) (by decide) rfl hb28 ?_
          refine o_guardN (j := 2) (e := (r4.2 != 0)) (want := false) (by decide) rfl hb28 ?_
          refine o_pickT (v := .v (.bool true)) (e := (r4.2 != 0)) (by decide) rfl hb28 rfl ?_
          refine o_move (v := .v (.bool true)) (by decide) rfl ?_
          refine o_guardN (j := 7) (e := true) (want := false) (by decide) rfl rfl ?_
          refine o_guardN (j := 7) (e := true) (want := false) (by decide) rfl rfl ?_
          refine o_guardN (j := 7) (e := true) (want := false) (by decide) rfl rfl ?_
          refine o_guardN (j := 7) (e := true) (want := false) (by decide) rfl rfl ?_
          refine o_pickT (v := .v (.bool true)) (e := true) (by decide) rfl rfl rfl ?_
          refine run_nil ?_
          exact w_goto true (.cons (.refl _) (.cons (.refl _) (.cons (.refl _) (.cons (.refl _) (.cons (.refl _) .nil))))) ⟨(hS.keep [true] rfl).up (by omega), hM⟩
        · replace hM := ifF hM hb28
          refine o_guardY (j := 2) (e := (r4.2 != 0)) (want := false) rfl hb28 ?_
          refine o_move (v := .sl .no 1 (r4.1.map cI)) (by decide) rfl ?_
          refine o_guardY (j := 2) (e := (r4.2 != 0)) (want := false) rfl hb28 ?_
          refine o_len (n := r4.1.length) (by decide) rfl (List.length_map _) ty_isl28 ?_
          refine o_guardY (j := 2) (e := (r4.2 != 0)) (want := false) rfl hb28 ?_
          refine o_int (v := .v (.bool (decide ((r4.1.length : Int) > 40)))) (by decide) rfl rfl rfl ?_
          refine o_pickF (v := .v (.bool (decide ((r4.1.length : Int) > 40)))) (e := (r4.2 != 0)) (by decide) rfl hb28 rfl ?_
          refine o_move (v := .v (.bool (decide ((r4.1.length : Int) > 40)))) (by decide) rfl ?_
          rcases Bool.eq_false_or_eq_true (decide ((r4.1.length : Int) > 40)) with hb29 | hb29
          · replace hM := ifT hM hb29
            refine o_guardN (j := 7) (e := (decide ((r4.1.length : Int) > 40))) (want := false) (by decide) rfl hb29 ?_
            refine o_guardN (j := 7) (e := (decide ((r4.1.length : Int) > 40))) (want := false) (by decide) rfl hb29 ?_
            refine o_guardN (j := 7) (e := (decide ((r4.1.length : Int) > 40))) (want := false) (by decide) rfl hb29 ?_
            refine o_guardN (j := 7) (e := (decide ((r4.1.length : Int) > 40))) (want := false) (by decide) rfl hb29 ?_
            refine o_pickT (v := .v (.bool true)) (e := (decide ((r4.1.length : Int) > 40))) (by decide) rfl hb29 rfl ?_
            refine run_nil ?_
            exact w_goto true (.cons (.refl _) (.cons (.refl _) (.cons (.refl _) (.cons (.refl _) (.cons (.refl _) .nil))))) ⟨(hS.keep [true] rfl).up (by omega), hM⟩
          · replace hM := ifF hM hb29
            refine o_guardY (j := 7) (e := (decide ((r4.1.length : Int) > 40))) (want := false) rfl hb29 ?_
            refine o_load (v := .agg [.sl .no 4 (a0.Clauses.map Clause.cells), .v (.int .i64 a0.Loan)]) 0 hS (by decide) rfl rfl .no (part_agg ty_agg24 (Nat.le_of_ble_eq_true rfl) rfl) ?_
            refine o_guardY (j := 7) (e := (decide ((r4.1.length : Int) > 40))) (want := false) rfl hb29 ?_
            refine o_move (v := .sl .no 1 (r4.1.map cI)) (by decide) rfl ?_
            refine o_guardY (j := 7) (e := (decide ((r4.1.length : Int) > 40))) (want := false) rfl hb29 ?_
            obtain ⟨r30, hr30, hM⟩ := bindE hM
            refine o_call (bs := [.agg [.sl .no 4 (a0.Clauses.map Clause.cells), .v (.int .i64 a0.Loan)], .sl .no 1 (r4.1.map cI)]) (by decide) rfl rfl ((W_ref09_IsOrder hr30).le (.cons (.refl _) (.cons (.refl _) .nil))) ?_
            refine o_guardY (j := 7) (e := (decide ((r4.1.length : Int) > 40))) (want := false) rfl hb29 ?_
            refine o_not (e := r30) (by decide) rfl ?_
            refine o_pickF (v := .v (.bool (!r30))) (e := (decide ((r4.1.length : Int) > 40))) (by decide) rfl hb29 rfl ?_
            refine run_nil ?_
            exact w_goto (!r30) (.cons (.refl _) (.cons (.refl _) (.cons (.refl _) (.cons (.refl _) (.cons (.refl _) .nil))))) ⟨(hS.keep [true] rfl).up (by omega), hM⟩
  · refine r_region (n := 19) rfl ?_
    refine o_load (v := .agg [.sl .no 4 (a0.Clauses.map Clause.cells), .v (.int .i64 a0.Loan)]) 0 hS (by decide) rfl rfl .no (part_agg ty_agg24 (Nat.le_of_ble_eq_true rfl) rfl) ?_
    obtain ⟨r31, hr31, hM⟩ := bindE hM
    refine o_call (bs := [.agg [.sl .no 4 (a0.Clauses.map Clause.cells), .v (.int .i64 a0.Loan)]]) (by decide) rfl rfl ((W_law09_isShare hr31).le (.cons (.refl _) .nil)) ?_
    refine o_not (e := r31) (by decide) rfl ?_
    refine o_move (v := .v (.bool (!r31))) (by decide) rfl ?_
    rcases Bool.eq_false_or_eq_true (!r31) with hb32 | hb32
    · replace hM := ifT hM hb32
      refine o_guardN (j := 3) (e := (!r31)) (want := false) (by decide) rfl hb32 ?_
      refine o_guardN (j := 3) (e := (!r31)) (want := false) (by decide) rfl hb32 ?_
      refine o_guardN (j := 3) (e := (!r31)) (want := false) (by decide) rfl hb32 ?_
      refine o_pickT (v := .v (.bool true)) (e := (!r31)) (by decide) rfl hb32 rfl ?_
      refine o_move (v := .v (.bool true)) (by decide) rfl ?_
      refine o_guardN (j := 8) (e := true) (want := false) (by decide) rfl rfl ?_
      refine o_guardN (j := 8) (e := true) (want := false) (by decide) rfl rfl ?_
      refine o_guardN (j := 8) (e := true) (want := false) (by decide) rfl rfl ?_
      refine o_pickT (v := .v (.bool true)) (e := true) (by decide) rfl rfl rfl ?_
      refine o_move (v := .v (.bool true)) (by decide) rfl ?_
      refine o_guardN (j := 13) (e := true) (want := false) (by decide) rfl rfl ?_
      refine o_guardN (j := 13) (e := true) (want := false) (by decide) rfl rfl ?_
      refine o_guardN (j := 13) (e := true) (want := false) (by decide) rfl rfl ?_
      refine o_guardN (j := 13) (e := true) (want := false) (by decide) rfl rfl ?_
      refine o_pickT (v := .v (.bool true)) (e := true) (by decide) rfl rfl rfl ?_
      refine run_nil ?_
      exact w_goto true (.cons (.refl _) (.cons (.refl _) (.cons (.refl _) (.cons (.refl _) .nil)))) ⟨(hS.keep [true] rfl).up (by omega), hM⟩
    · replace hM := ifF hM hb32
      refine o_guardY (j := 3) (e := (!r31)) (want := false) rfl hb32 ?_
      refine o_move (v := .v (.int .i64 a1)) (by decide) rfl ?_
      refine o_guardY (j := 3) (e := (!r31)) (want := false) rfl hb32 ?_
      obtain ⟨r33, hr33, hM⟩ := bindE hM
      refine o_call (bs := [.v (.int .i64 a1)]) (by decide) rfl rfl ((W_ref09_IsCents hr33).le (.cons (.refl _) .nil)) ?_
      refine o_guardY (j := 3) (e := (!r31)) (want := false) rfl hb32 ?_
      refine o_not (e := r33) (by decide) rfl ?_
      refine o_pickF (v := .v (.bool (!r33))) (e := (!r31)) (by decide) rfl hb32 rfl ?_
      refine o_move (v := .v (.bool (!r33))) (by decide) rfl ?_
      rcases Bool.eq_false_or_eq_true (!r33) with hb34 | hb34
      · replace hM := ifT hM hb34
        refine o_guardN (j := 8) (e := (!r33)) (want := false) (by decide) rfl hb34 ?_
        refine o_guardN (j := 8) (e := (!r33)) (want := false) (by decide) rfl hb34 ?_
        refine o_guardN (j := 8) (e := (!r33)) (want := false) (by decide) rfl hb34 ?_
        refine o_pickT (v := .v (.bool true)) (e := (!r33)) (by decide) rfl hb34 rfl ?_
        refine o_move (v := .v (.bool true)) (by decide) rfl ?_
        refine o_guardN (j := 13) (e := true) (want := false) (by decide) rfl rfl ?_
        refine o_guardN (j := 13) (e := true) (want := false) (by decide) rfl rfl ?_
        refine o_guardN (j := 13) (e := true) (want := false) (by decide) rfl rfl ?_
        refine o_guardN (j := 13) (e := true) (want := false) (by decide) rfl rfl ?_
        refine o_pickT (v := .v (.bool true)) (e := true) (by decide) rfl rfl rfl ?_
        refine run_nil ?_
        exact w_goto true (.cons (.refl _) (.cons (.refl _) (.cons (.refl _) (.cons (.refl _) .nil)))) ⟨(hS.keep [true] rfl).up (by omega), hM⟩
      · replace hM := ifF hM hb34
        refine o_guardY (j := 8) (e := (!r33)) (want := false) rfl hb34 ?_
        refine o_move (v := .sl .no 1 (a2.map cI)) (by decide) rfl ?_
        refine o_guardY (j := 8) (e := (!r33)) (want := false) rfl hb34 ?_
        refine o_len (n := a2.length) (by decide) rfl (List.length_map _) ty_isl28 ?_
        refine o_guardY (j := 8) (e := (!r33)) (want := false) rfl hb34 ?_
        refine o_int (v := .v (.bool (decide ((a2.length : Int) > 40)))) (by decide) rfl rfl rfl ?_
        refine o_pickF (v := .v (.bool (decide ((a2.length : Int) > 40)))) (e := (!r33)) (by decide) rfl hb34 rfl ?_
        refine o_move (v := .v (.bool (decide ((a2.length : Int) > 40)))) (by decide) rfl ?_
        rcases Bool.eq_false_or_eq_true (decide ((a2.length : Int) > 40)) with hb35 | hb35
        · replace hM := ifT hM hb35
          refine o_guardN (j := 13) (e := (decide ((a2.length : Int) > 40))) (want := false) (by decide) rfl hb35 ?_
          refine o_guardN (j := 13) (e := (decide ((a2.length : Int) > 40))) (want := false) (by decide) rfl hb35 ?_
          refine o_guardN (j := 13) (e := (decide ((a2.length : Int) > 40))) (want := false) (by decide) rfl hb35 ?_
          refine o_guardN (j := 13) (e := (decide ((a2.length : Int) > 40))) (want := false) (by decide) rfl hb35 ?_
          refine o_pickT (v := .v (.bool true)) (e := (decide ((a2.length : Int) > 40))) (by decide) rfl hb35 rfl ?_
          refine run_nil ?_
          exact w_goto true (.cons (.refl _) (.cons (.refl _) (.cons (.refl _) (.cons (.refl _) .nil)))) ⟨(hS.keep [true] rfl).up (by omega), hM⟩
        · replace hM := ifF hM hb35
          refine o_guardY (j := 13) (e := (decide ((a2.length : Int) > 40))) (want := false) rfl hb35 ?_
          refine o_load (v := .agg [.sl .no 4 (a0.Clauses.map Clause.cells), .v (.int .i64 a0.Loan)]) 0 hS (by decide) rfl rfl .no (part_agg ty_agg24 (Nat.le_of_ble_eq_true rfl) rfl) ?_
          refine o_guardY (j := 13) (e := (decide ((a2.length : Int) > 40))) (want := false) rfl hb35 ?_
          refine o_move (v := .sl .no 1 (a2.map cI)) (by decide) rfl ?_
          refine o_guardY (j := 13) (e := (decide ((a2.length : Int) > 40))) (want := false) rfl hb35 ?_
          obtain ⟨r36, hr36, hM⟩ := bindE hM
          refine o_call (bs := [.agg [.sl .no 4 (a0.Clauses.map Clause.cells), .v (.int .i64 a0.Loan)], .sl .no 1 (a2.map cI)]) (by decide) rfl rfl ((W_ref09_IsOrder hr36).le (.cons (.refl _) (.cons (.refl _) .nil))) ?_
          refine o_guardY (j := 13) (e := (decide ((a2.length : Int) > 40))) (want := false) rfl hb35 ?_
          refine o_not (e := r36) (by decide) rfl ?_
          refine o_pickF (v := .v (.bool (!r36))) (e := (decide ((a2.length : Int) > 40))) (by decide) rfl hb35 rfl ?_
          refine run_nil ?_
          exact w_goto (!r36) (.cons (.refl _) (.cons (.refl _) (.cons (.refl _) (.cons (.refl _) .nil)))) ⟨(hS.keep [true] rfl).up (by omega), hM⟩
end Go.Proofs.Ytkgldpboiigphaa
