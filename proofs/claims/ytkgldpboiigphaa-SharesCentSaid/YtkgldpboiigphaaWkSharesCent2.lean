/-
  The code returns what the functions say (printed by gen.py).
  Conditions: none.
-/
import Derived.Test.YtkgldpboiigphaaWkSharesCent1
set_option linter.all false
namespace Go.Proofs.Ytkgldpboiigphaa
open Go Go.AM Go.Law
set_option linter.unusedVariables false
set_option maxRecDepth 4000
set_option maxHeartbeats 4000000
theorem W_shares_Gives {n : Nat} {a0 : Share} {a1 : Int} {a2 : Int} {r : Int × Int} (hM : shares_Gives n a0 a1 a2 = some r) : PureSat Try.prog 30 [.agg [.sl .no 4 (a0.Clauses.map Clause.cells), .v (.int .i64 a0.Loan)], .v (.int .i64 a1), .v (.int .i64 a2)] (.tup [.v (.int .i64 r.1), .v (.int .i64 r.2)]) := by
  refine pure_of_wp mixed Try.func30 rfl (by decide) Try.ntmps30 (by simp) ?pure fun H0 g hf => ?_
  case pure => exact .tup _ (pl_cons (.v _) (pl_cons (.v _) pl_nil))
  rw [frame0_of]
  change wpA _ _ _ _ (Fr.of [(0, .agg [.sl .no 4 (a0.Clauses.map Clause.cells), .v (.int .i64 a0.Loan)]), (1, .v (.int .i64 a1)), (2, .v (.int .i64 a2))]) H0 g
  have hS := St.start hf
  refine r_seq ?_
  refine r_region (n := 3) rfl ?_
  refine o_box (v := .agg [.sl .no 4 (a0.Clauses.map Clause.cells), .v (.int .i64 a0.Loan)]) (cs := [.sl .no 4 (a0.Clauses.map Clause.cells), .v (.int .i64 a0.Loan)]) hS (by decide) rfl rfl (by omega) fun H hS => ?_
  refine o_assign (v := .v (.int .i64 0)) (by decide) rfl ?_
  refine o_assign (v := .v (.int .i64 0)) (by decide) rfl ?_
  refine run_nil ?_
  refine w_next [(1, .v (.int .i64 a1)), (2, .v (.int .i64 a2)), (3, .ptr (g + 0) 0)] (.cons (.refl _) (.cons (.refl _) (.cons (.refl _) .nil))) ?_
  refine r_seq ?_
  refine w_join (J := Int) (fun j => [(1, .v (.int .i64 a1)), (2, .v (.int .i64 a2)), (3, .ptr (g + 0) 0), (8, .v (.int .i64 j))]) (fun j H' g' => St (· < g) H0 [(g + 0, .cells [.sl .no 4 (a0.Clauses.map Clause.cells), .v (.int .i64 a0.Loan)])] H' g' ∧ shares_Gives_j1 n a0 a1 a2 j = some r) ?_ ?_
  · rintro v1 H g1 ⟨hS, hM⟩
    change wpA _ _ _ _ (Fr.of [(1, .v (.int .i64 a1)), (2, .v (.int .i64 a2)), (3, .ptr (g + 0) 0), (8, .v (.int .i64 v1))]) _ _
    replace hS : St (· < g) H0 [(g + 0, .cells [.sl .no 4 (a0.Clauses.map Clause.cells), .v (.int .i64 a0.Loan)])] H g1 := hS
    replace hM : shares_Gives_j1 n a0 a1 a2 v1 = some r := hM
    refine r_seq ?_
    refine r_region (n := 2) rfl ?_
    refine o_move (v := .v (.int .i64 v1)) (by decide) rfl ?_
    refine o_int (v := .v (.bool (v1 != 0))) (by decide) rfl rfl rfl ?_
    refine run_nil ?_
    refine w_next [(1, .v (.int .i64 a1)), (2, .v (.int .i64 a2)), (3, .ptr (g + 0) 0), (8, .v (.int .i64 v1)), (21, .v (.bool (v1 != 0)))] (.cons (.refl _) (.cons (.refl _) (.cons (.refl _) (.cons (.refl _) (.cons (.refl _) .nil))))) ?_
    rcases Bool.eq_false_or_eq_true (v1 != 0) with hb2 | hb2
    · replace hM := ifT hM hb2
      refine w_condT (e := (v1 != 0)) rfl hb2 ?_
      refine r_seq ?_
      refine r_region (n := 3) rfl ?_
      refine o_move (v := .v (.int .i64 v1)) (by decide) rfl ?_
      refine o_assign (v := .v (.int .i64 0)) (by decide) rfl ?_
      refine o_assign (v := .v (.int .i64 v1)) (by decide) rfl ?_
      refine run_nil ?_
      replace hS := hS.keep (L' := []) [false] rfl
      refine w_next [(6, .v (.int .i64 0)), (7, .v (.int .i64 v1))] (.cons (.refl _) (.cons (.refl _) .nil)) ?_
      refine r_ret ?_
      refine r_then_ret ?_
      refine w_end (x := .tup [.v (.int .i64 0), .v (.int .i64 v1)]) (f := fun r => .tup [.v (.int .i64 r.1), .v (.int .i64 r.2)]) (.inr rfl) ?_ (.refl _) (Option.some.inj hM) hS
      exact (res_two (res_tmp (x := .v (.int .i64 0)) rfl) (res_tmp (x := .v (.int .i64 v1)) rfl))
    · replace hM := ifF hM hb2
      refine w_condF (e := (v1 != 0)) rfl hb2 ?_
      refine r_skip ?_
      refine w_next [(1, .v (.int .i64 a1)), (2, .v (.int .i64 a2)), (3, .ptr (g + 0) 0)] (.cons (.refl _) (.cons (.refl _) (.cons (.refl _) .nil))) ?_
      refine r_seq ?_
      refine r_region (n := 12) rfl ?_
      refine o_fieldP (by decide) ty_fo24_0 rfl ?_
      refine o_load (v := .sl .no 4 (a0.Clauses.map Clause.cells)) 0 hS (by decide) rfl rfl .no (part_one ty_agg22 ty_sc22 rfl) ?_
      refine o_fieldP (by decide) ty_fo24_1 rfl ?_
      refine o_load (v := .v (.int .i64 a0.Loan)) 0 hS (by decide) rfl rfl .no (part_one ty_agg3 ty_sc3 rfl) ?_
      refine o_move (v := .v (.int .i64 a1)) (by decide) rfl ?_
      obtain ⟨r3, hr3, hM⟩ := bindE hM
      refine o_call (bs := [.sl .no 4 (a0.Clauses.map Clause.cells), .v (.int .i64 a0.Loan), .v (.int .i64 a1), .v (.int .i64 0)]) (by decide) rfl rfl ((W_shares_settle hr3).le (.cons (.refl _) (.cons (.refl _) (.cons (.refl _) (.cons (.refl _) .nil))))) ?_
      refine o_move (v := .tup [.agg [.v (.int .i64 r3.1.Split.Operator), .v (.int .i64 r3.1.Split.Owner), .v (.int .i64 r3.1.Split.Repaid), .v (.int .i64 r3.1.rest), .v (.int .i64 r3.1.owed)], .sl .no 1 (r3.2.map cI)]) (by decide) rfl ?_
      refine o_extract (v := .agg [.v (.int .i64 r3.1.Split.Operator), .v (.int .i64 r3.1.Split.Owner), .v (.int .i64 r3.1.Split.Repaid), .v (.int .i64 r3.1.rest), .v (.int .i64 r3.1.owed)]) (by decide) rfl rfl ?_
      refine o_extract (v := .sl .no 1 (r3.2.map cI)) (by decide) rfl rfl ?_
      refine o_alloc hS (by decide) ty_zero76 (by omega) fun H hS => ?_
      refine o_store (v := .agg [.v (.int .i64 r3.1.Split.Operator), .v (.int .i64 r3.1.Split.Owner), .v (.int .i64 r3.1.Split.Repaid), .v (.int .i64 r3.1.rest), .v (.int .i64 r3.1.owed)]) (ns := [.v (.int .i64 r3.1.Split.Operator), .v (.int .i64 r3.1.Split.Owner), .v (.int .i64 r3.1.Split.Repaid), .v (.int .i64 r3.1.rest), .v (.int .i64 r3.1.owed)]) (L' := [(g1 + 2 + 9, .cells [.v (.int .i64 r3.1.Split.Operator), .v (.int .i64 r3.1.Split.Owner), .v (.int .i64 r3.1.Split.Repaid), .v (.int .i64 r3.1.rest), .v (.int .i64 r3.1.owed)]), (g + 0, .cells [.sl .no 4 (a0.Clauses.map Clause.cells), .v (.int .i64 a0.Loan)])]) 0 hS rfl rfl .no rfl rfl ty_var76 (Nat.le_of_ble_eq_true rfl) rfl fun H hS => ?_
      refine o_assign (v := .sl .no 1 (r3.2.map cI)) (by decide) rfl ?_
      refine run_nil ?_
      replace hS := hS.keep (L' := []) [false, false] rfl
      refine w_next [(2, .v (.int .i64 a2)), (10, .sl .no 1 (r3.2.map cI))] (.cons (.refl _) (.cons (.refl _) .nil)) ?_
      refine r_seq ?_
      refine r_region (n := 6) rfl ?_
      refine o_move (v := .sl .no 1 (r3.2.map cI)) (by decide) rfl ?_
      refine o_move (v := .v (.int .i64 a2)) (by decide) rfl ?_
      obtain ⟨x4, hx4, hM⟩ := bindE hM
      refine o_index (xs := r3.2) (f := cI) (z := a2) (u := x4) (by decide) rfl rfl ty_es28 hx4 ?_
      refine o_loadE (v := .v (.int .i64 x4)) (by decide) rfl (part_one ty_agg3 ty_sc3 rfl) ?_
      refine o_assign (v := .v (.int .i64 x4)) (by decide) rfl ?_
      refine o_assign (v := .v (.int .i64 0)) (by decide) rfl ?_
      refine run_nil ?_
      refine w_next [(6, .v (.int .i64 x4)), (7, .v (.int .i64 0))] (.cons (.refl _) (.cons (.refl _) .nil)) ?_
      refine r_ret ?_
      refine w_end (x := .tup [.v (.int .i64 x4), .v (.int .i64 0)]) (f := fun r => .tup [.v (.int .i64 r.1), .v (.int .i64 r.2)]) (.inr rfl) ?_ (.refl _) (Option.some.inj hM) hS
      exact (res_two (res_tmp (x := .v (.int .i64 x4)) rfl) (res_tmp (x := .v (.int .i64 0)) rfl))
  · have hS0 := hS
    refine r_draw (n := 10) rfl (by kernel_rfl) ?_
    refine o_load (v := .agg [.sl .no 4 (a0.Clauses.map Clause.cells), .v (.int .i64 a0.Loan)]) 0 hS (by decide) rfl rfl (.st hS0 0 rfl (by omega)) (part_agg ty_agg24 (Nat.le_of_ble_eq_true rfl) rfl) ?_
    refine o_move (v := .v (.int .i64 a1)) (by decide) rfl ?_
    obtain ⟨r5, hr5, hM⟩ := bindE hM
    refine o_call (bs := [.v (.int .i64 a1)]) (by decide) rfl rfl ((W_shares_isCents hr5).le (.cons (.refl _) .nil)) ?_
    refine o_move (v := .v (.bool r5)) (by decide) rfl ?_
    rcases Bool.eq_false_or_eq_true r5 with hb6 | hb6
    · replace hM := ifT hM hb6
      refine o_guardY (j := 3) (e := r5) (want := true) rfl hb6 ?_
      refine o_load (v := .agg [.sl .no 4 (a0.Clauses.map Clause.cells), .v (.int .i64 a0.Loan)]) 0 hS (by decide) rfl rfl (.st hS0 0 rfl (by omega)) (part_agg ty_agg24 (Nat.le_of_ble_eq_true rfl) rfl) ?_
      refine o_guardY (j := 3) (e := r5) (want := true) rfl hb6 ?_
      refine o_move (v := .v (.int .i64 a2)) (by decide) rfl ?_
      refine o_guardY (j := 3) (e := r5) (want := true) rfl hb6 ?_
      obtain ⟨r7, hr7, hM⟩ := bindE hM
      refine o_call (bs := [.agg [.sl .no 4 (a0.Clauses.map Clause.cells), .v (.int .i64 a0.Loan)], .v (.int .i64 a2)]) (by decide) rfl rfl ((W_shares_isClause hr7).le (.cons (.refl _) (.cons (.refl _) .nil))) ?_
      refine o_pickT (v := .v (.bool r7)) (e := r5) (by decide) rfl hb6 rfl ?_
      obtain ⟨r8, hr8, hM⟩ := bindE hM
      refine o_call (bs := [.agg [.sl .no 4 (a0.Clauses.map Clause.cells), .v (.int .i64 a0.Loan)], .v (.bool r7)]) (by decide) rfl rfl ((W_shares_ask hr8).le (.cons (.refl _) (.cons (.refl _) .nil))) ?_
      refine o_assign (v := .v (.int .i64 r8)) (by decide) rfl ?_
      refine run_nil ?_
      exact w_goto r8 (.cons (.refl _) (.cons (.refl _) (.cons (.refl _) (.cons (.refl _) .nil)))) ⟨(hS.keep [true] rfl).up (by omega), hM⟩
    · replace hM := ifF hM hb6
      refine o_guardN (j := 3) (e := r5) (want := true) (by decide) rfl hb6 ?_
      refine o_guardN (j := 3) (e := r5) (want := true) (by decide) rfl hb6 ?_
      refine o_guardN (j := 3) (e := r5) (want := true) (by decide) rfl hb6 ?_
      refine o_pickF (v := .v (.bool false)) (e := r5) (by decide) rfl hb6 rfl ?_
      obtain ⟨r9, hr9, hM⟩ := bindE hM
      refine o_call (bs := [.agg [.sl .no 4 (a0.Clauses.map Clause.cells), .v (.int .i64 a0.Loan)], .v (.bool false)]) (by decide) rfl rfl ((W_shares_ask hr9).le (.cons (.refl _) (.cons (.refl _) .nil))) ?_
      refine o_assign (v := .v (.int .i64 r9)) (by decide) rfl ?_
      refine run_nil ?_
      exact w_goto r9 (.cons (.refl _) (.cons (.refl _) (.cons (.refl _) (.cons (.refl _) .nil)))) ⟨(hS.keep [true] rfl).up (by omega), hM⟩
theorem W_law09_SharesCent {n : Nat} {a0 : Share} {a1 : Ask_} {r : Bool} (hM : law09_SharesCent n a0 a1 = some r) : PureSat Try.prog 6 [.agg [.sl .no 4 (a0.Clauses.map Clause.cells), .v (.int .i64 a0.Loan)], .agg [.v (.int .i64 a1.Takings), .v (.int .i64 a1.Gift), .v (.int .i64 a1.Clause)]] (.v (.bool r)) := by
  refine pure_of_wp mixed Try.func6 rfl (by decide) Try.ntmps6 (by simp) ?pure fun H0 g hf => ?_
  case pure => exact .v _
  rw [frame0_of]
  change wpA _ _ _ _ (Fr.of [(0, .agg [.sl .no 4 (a0.Clauses.map Clause.cells), .v (.int .i64 a0.Loan)]), (1, .agg [.v (.int .i64 a1.Takings), .v (.int .i64 a1.Gift), .v (.int .i64 a1.Clause)])]) H0 g
  have hS := St.start hf
  refine r_seq ?_
  refine r_region (n := 3) rfl ?_
  refine o_box (v := .agg [.sl .no 4 (a0.Clauses.map Clause.cells), .v (.int .i64 a0.Loan)]) (cs := [.sl .no 4 (a0.Clauses.map Clause.cells), .v (.int .i64 a0.Loan)]) hS (by decide) rfl rfl (by omega) fun H hS => ?_
  refine o_box (v := .agg [.v (.int .i64 a1.Takings), .v (.int .i64 a1.Gift), .v (.int .i64 a1.Clause)]) (cs := [.v (.int .i64 a1.Takings), .v (.int .i64 a1.Gift), .v (.int .i64 a1.Clause)]) hS (by decide) rfl rfl (by omega) fun H hS => ?_
  refine o_assign (v := .v (.bool false)) (by decide) rfl ?_
  refine run_nil ?_
  refine w_next [(2, .ptr (g + 0) 0), (3, .ptr (g + 1) 0)] (.cons (.refl _) (.cons (.refl _) .nil)) ?_
  refine r_seq ?_
  refine w_join (J := Bool) (fun j => [(2, .ptr (g + 0) 0), (3, .ptr (g + 1) 0), (29, .v (.bool j))]) (fun j H' g' => St (· < g) H0 [(g + 1, .cells [.v (.int .i64 a1.Takings), .v (.int .i64 a1.Gift), .v (.int .i64 a1.Clause)]), (g + 0, .cells [.sl .no 4 (a0.Clauses.map Clause.cells), .v (.int .i64 a0.Loan)])] H' g' ∧ law09_SharesCent_j1 n a0 a1 j = some r) ?_ ?_
  · rintro v1 H g1 ⟨hS, hM⟩
    change wpA _ _ _ _ (Fr.of [(2, .ptr (g + 0) 0), (3, .ptr (g + 1) 0), (29, .v (.bool v1))]) _ _
    replace hS : St (· < g) H0 [(g + 1, .cells [.v (.int .i64 a1.Takings), .v (.int .i64 a1.Gift), .v (.int .i64 a1.Clause)]), (g + 0, .cells [.sl .no 4 (a0.Clauses.map Clause.cells), .v (.int .i64 a0.Loan)])] H g1 := hS
    replace hM : law09_SharesCent_j1 n a0 a1 v1 = some r := hM
    rcases Bool.eq_false_or_eq_true v1 with hb2 | hb2
    · replace hM := ifT hM hb2
      refine w_condT (e := v1) rfl hb2 ?_
      refine r_seq ?_
      refine r_region (n := 2) rfl ?_
      obtain ⟨r3, hr3, hM⟩ := bindE hM
      refine o_call (bs := []) (by decide) rfl rfl ((W_law09_works hr3).le .nil) ?_
      refine o_assign (v := .v (.bool r3)) (by decide) rfl ?_
      refine run_nil ?_
      replace hS := hS.keep (L' := []) [false, false] rfl
      refine w_next [(4, .v (.bool r3))] (.cons (.refl _) .nil) ?_
      refine r_ret ?_
      refine r_then_ret ?_
      refine w_end (x := .v (.bool r3)) (f := fun r => .v (.bool r)) (.inr rfl) ?_ (.refl _) (Option.some.inj hM) hS
      exact (res_one (res_tmp (x := .v (.bool r3)) rfl))
    · replace hM := ifF hM hb2
      refine w_condF (e := v1) rfl hb2 ?_
      refine r_skip ?_
      refine w_next [(2, .ptr (g + 0) 0), (3, .ptr (g + 1) 0)] (.cons (.refl _) (.cons (.refl _) .nil)) ?_
      refine r_seq ?_
      refine r_region (n := 10) rfl ?_
      refine o_load (v := .agg [.sl .no 4 (a0.Clauses.map Clause.cells), .v (.int .i64 a0.Loan)]) 1 hS (by decide) rfl rfl .no (part_agg ty_agg24 (Nat.le_of_ble_eq_true rfl) rfl) ?_
      refine o_fieldP (by decide) ty_fo50_0 rfl ?_
      refine o_load (v := .v (.int .i64 a1.Takings)) 0 hS (by decide) rfl rfl .no (part_one ty_agg3 ty_sc3 rfl) ?_
      obtain ⟨r4, hr4, hM⟩ := bindE hM
      refine o_call (bs := [.agg [.sl .no 4 (a0.Clauses.map Clause.cells), .v (.int .i64 a0.Loan)], .v (.int .i64 a1.Takings)]) (by decide) rfl rfl ((W_shares_Week hr4).le (.cons (.refl _) (.cons (.refl _) .nil))) ?_
      refine o_move (v := .tup [.agg [.v (.int .i64 r4.1.Operator), .v (.int .i64 r4.1.Owner), .v (.int .i64 r4.1.Repaid)], .v (.int .i64 r4.2)]) (by decide) rfl ?_
      refine o_extract (v := .agg [.v (.int .i64 r4.1.Operator), .v (.int .i64 r4.1.Owner), .v (.int .i64 r4.1.Repaid)]) (by decide) rfl rfl ?_
      refine o_extract (v := .v (.int .i64 r4.2)) (by decide) rfl rfl ?_
      refine o_alloc hS (by decide) ty_zero41 (by omega) fun H hS => ?_
      refine o_store (v := .agg [.v (.int .i64 r4.1.Operator), .v (.int .i64 r4.1.Owner), .v (.int .i64 r4.1.Repaid)]) (ns := [.v (.int .i64 r4.1.Operator), .v (.int .i64 r4.1.Owner), .v (.int .i64 r4.1.Repaid)]) (L' := [(g1 + 7, .cells [.v (.int .i64 r4.1.Operator), .v (.int .i64 r4.1.Owner), .v (.int .i64 r4.1.Repaid)]), (g + 1, .cells [.v (.int .i64 a1.Takings), .v (.int .i64 a1.Gift), .v (.int .i64 a1.Clause)]), (g + 0, .cells [.sl .no 4 (a0.Clauses.map Clause.cells), .v (.int .i64 a0.Loan)])]) 0 hS rfl rfl .no rfl rfl ty_var41 (Nat.le_of_ble_eq_true rfl) rfl fun H hS => ?_
      refine o_assign (v := .v (.int .i64 r4.2)) (by decide) rfl ?_
      refine run_nil ?_
      refine w_next [(2, .ptr (g + 0) 0), (3, .ptr (g + 1) 0), (5, .ptr (g1 + 7) 0), (6, .v (.int .i64 r4.2))] (.cons (.refl _) (.cons (.refl _) (.cons (.refl _) (.cons (.refl _) .nil)))) ?_
      refine r_seq ?_
      refine r_region (n := 12) rfl ?_
      refine o_load (v := .agg [.sl .no 4 (a0.Clauses.map Clause.cells), .v (.int .i64 a0.Loan)]) 2 hS (by decide) rfl rfl .no (part_agg ty_agg24 (Nat.le_of_ble_eq_true rfl) rfl) ?_
      refine o_fieldP (by decide) ty_fo50_0 rfl ?_
      refine o_load (v := .v (.int .i64 a1.Takings)) 1 hS (by decide) rfl rfl .no (part_one ty_agg3 ty_sc3 rfl) ?_
      refine o_fieldP (by decide) ty_fo50_1 rfl ?_
      refine o_load (v := .v (.int .i64 a1.Gift)) 1 hS (by decide) rfl rfl .no (part_one ty_agg3 ty_sc3 rfl) ?_
      obtain ⟨r5, hr5, hM⟩ := bindE hM
      refine o_call (bs := [.agg [.sl .no 4 (a0.Clauses.map Clause.cells), .v (.int .i64 a0.Loan)], .v (.int .i64 a1.Takings), .v (.int .i64 a1.Gift)]) (by decide) rfl rfl ((W_shares_Gift hr5).le (.cons (.refl _) (.cons (.refl _) (.cons (.refl _) .nil)))) ?_
      refine o_move (v := .tup [.agg [.v (.int .i64 r5.1.Operator), .v (.int .i64 r5.1.Owner), .v (.int .i64 r5.1.Repaid)], .v (.int .i64 r5.2)]) (by decide) rfl ?_
      refine o_extract (v := .agg [.v (.int .i64 r5.1.Operator), .v (.int .i64 r5.1.Owner), .v (.int .i64 r5.1.Repaid)]) (by decide) rfl rfl ?_
      refine o_extract (v := .v (.int .i64 r5.2)) (by decide) rfl rfl ?_
      refine o_alloc hS (by decide) ty_zero41 (by omega) fun H hS => ?_
      refine o_store (v := .agg [.v (.int .i64 r5.1.Operator), .v (.int .i64 r5.1.Owner), .v (.int .i64 r5.1.Repaid)]) (ns := [.v (.int .i64 r5.1.Operator), .v (.int .i64 r5.1.Owner), .v (.int .i64 r5.1.Repaid)]) (L' := [(g1 + 10 + 9, .cells [.v (.int .i64 r5.1.Operator), .v (.int .i64 r5.1.Owner), .v (.int .i64 r5.1.Repaid)]), (g1 + 7, .cells [.v (.int .i64 r4.1.Operator), .v (.int .i64 r4.1.Owner), .v (.int .i64 r4.1.Repaid)]), (g + 1, .cells [.v (.int .i64 a1.Takings), .v (.int .i64 a1.Gift), .v (.int .i64 a1.Clause)]), (g + 0, .cells [.sl .no 4 (a0.Clauses.map Clause.cells), .v (.int .i64 a0.Loan)])]) 0 hS rfl rfl .no rfl rfl ty_var41 (Nat.le_of_ble_eq_true rfl) rfl fun H hS => ?_
      refine o_assign (v := .v (.int .i64 r5.2)) (by decide) rfl ?_
      refine run_nil ?_
      refine w_next [(2, .ptr (g + 0) 0), (3, .ptr (g + 1) 0), (5, .ptr (g1 + 7) 0), (6, .v (.int .i64 r4.2)), (7, .ptr (g1 + 10 + 9) 0), (8, .v (.int .i64 r5.2))] (.cons (.refl _) (.cons (.refl _) (.cons (.refl _) (.cons (.refl _) (.cons (.refl _) (.cons (.refl _) .nil)))))) ?_
      refine r_seq ?_
      refine w_join (J := Bool) (fun j => [(2, .ptr (g + 0) 0), (3, .ptr (g + 1) 0), (5, .ptr (g1 + 7) 0), (80, .v (.bool j))]) (fun j H' g' => St (· < g) H0 [(g1 + 7, .cells [.v (.int .i64 r4.1.Operator), .v (.int .i64 r4.1.Owner), .v (.int .i64 r4.1.Repaid)]), (g + 1, .cells [.v (.int .i64 a1.Takings), .v (.int .i64 a1.Gift), .v (.int .i64 a1.Clause)]), (g + 0, .cells [.sl .no 4 (a0.Clauses.map Clause.cells), .v (.int .i64 a0.Loan)])] H' g' ∧ law09_SharesCent_j2 n a0 a1 r4 j = some r) ?_ ?_
      · rintro v6 H g2 ⟨hS, hM⟩
        change wpA _ _ _ _ (Fr.of [(2, .ptr (g + 0) 0), (3, .ptr (g + 1) 0), (5, .ptr (g1 + 7) 0), (80, .v (.bool v6))]) _ _
        replace hS : St (· < g) H0 [(g1 + 7, .cells [.v (.int .i64 r4.1.Operator), .v (.int .i64 r4.1.Owner), .v (.int .i64 r4.1.Repaid)]), (g + 1, .cells [.v (.int .i64 a1.Takings), .v (.int .i64 a1.Gift), .v (.int .i64 a1.Clause)]), (g + 0, .cells [.sl .no 4 (a0.Clauses.map Clause.cells), .v (.int .i64 a0.Loan)])] H g2 := hS
        replace hM : law09_SharesCent_j2 n a0 a1 r4 v6 = some r := hM
        rcases Bool.eq_false_or_eq_true v6 with hb7 | hb7
        · replace hM := ifT hM hb7
          refine w_condT (e := v6) rfl hb7 ?_
          refine r_seq ?_
          refine r_region (n := 1) rfl ?_
          refine o_assign (v := .v (.bool false)) (by decide) rfl ?_
          refine run_nil ?_
          replace hS := hS.keep (L' := []) [false, false, false] rfl
          refine w_next [(4, .v (.bool false))] (.cons (.refl _) .nil) ?_
          refine r_ret ?_
          refine r_then_ret ?_
          refine w_end (x := .v (.bool false)) (f := fun r => .v (.bool r)) (.inr rfl) ?_ (.refl _) (Option.some.inj hM) hS
          exact (res_one (res_tmp (x := .v (.bool false)) rfl))
        · replace hM := ifF hM hb7
          refine w_condF (e := v6) rfl hb7 ?_
          refine r_skip ?_
          refine w_next [(2, .ptr (g + 0) 0), (3, .ptr (g + 1) 0), (5, .ptr (g1 + 7) 0)] (.cons (.refl _) (.cons (.refl _) (.cons (.refl _) .nil))) ?_
          refine r_seq ?_
          refine r_region (n := 3) rfl ?_
          refine o_assign (v := .v (.int .i64 0)) (by decide) rfl ?_
          refine o_assign (v := .v (.int .i64 0)) (by decide) rfl ?_
          refine o_assign (v := .v (.int .i64 0)) (by decide) rfl ?_
          refine run_nil ?_
          refine w_next [(2, .ptr (g + 0) 0), (3, .ptr (g + 1) 0), (5, .ptr (g1 + 7) 0), (9, .v (.int .i64 0)), (10, .v (.int .i64 0)), (11, .v (.int .i64 0))] (.cons (.refl _) (.cons (.refl _) (.cons (.refl _) (.cons (.refl _) (.cons (.refl _) (.cons (.refl _) .nil)))))) ?_
          refine w_join (J := Int × Int) (fun j => [(5, .ptr (g1 + 7) 0), (10, .v (.int .i64 j.1)), (11, .v (.int .i64 j.2))]) (fun j H' g' => St (· < g) H0 [(g1 + 7, .cells [.v (.int .i64 r4.1.Operator), .v (.int .i64 r4.1.Owner), .v (.int .i64 r4.1.Repaid)])] H' g' ∧ law09_SharesCent_j3 n r4 j.1 j.2 = some r) ?_ ?_
          · rintro ⟨v8, v9⟩ H g3 ⟨hS, hM⟩
            change wpA _ _ _ _ (Fr.of [(5, .ptr (g1 + 7) 0), (10, .v (.int .i64 v8)), (11, .v (.int .i64 v9))]) _ _
            replace hS : St (· < g) H0 [(g1 + 7, .cells [.v (.int .i64 r4.1.Operator), .v (.int .i64 r4.1.Owner), .v (.int .i64 r4.1.Repaid)])] H g3 := hS
            replace hM : law09_SharesCent_j3 n r4 v8 v9 = some r := hM
            refine w_join (J := Bool) (fun j => [(4, .v (.bool j))]) (fun j H' g' => St (· < g) H0 [] H' g' ∧ law09_SharesCent_j4 j = some r) ?_ ?_
            · rintro v10 H g4 ⟨hS, hM⟩
              change wpA _ _ _ _ (Fr.of [(4, .v (.bool v10))]) _ _
              replace hS : St (· < g) H0 [] H g4 := hS
              replace hM : law09_SharesCent_j4 v10 = some r := hM
              refine r_ret ?_
              refine w_end (x := .v (.bool v10)) (f := fun r => .v (.bool r)) (.inr rfl) ?_ (.refl _) (Option.some.inj hM) hS
              exact (res_one (res_tmp (x := .v (.bool v10)) rfl))
            · refine r_region (n := 14) rfl ?_
              refine o_move (v := .v (.int .i64 v8)) (by decide) rfl ?_
              refine o_fieldP (by decide) ty_fo41_1 rfl ?_
              refine o_load (v := .v (.int .i64 r4.1.Owner)) 0 hS (by decide) rfl rfl .no (part_one ty_agg3 ty_sc3 rfl) ?_
              refine o_int (v := .v (.bool (v8 == r4.1.Owner))) (by decide) rfl rfl rfl ?_
              refine o_move (v := .v (.bool (v8 == r4.1.Owner))) (by decide) rfl ?_
              rcases Bool.eq_false_or_eq_true (v8 == r4.1.Owner) with hb11 | hb11
              · replace hM := ifT hM hb11
                refine o_guardY (j := 4) (e := (v8 == r4.1.Owner)) (want := true) rfl hb11 ?_
                refine o_move (v := .v (.int .i64 v9)) (by decide) rfl ?_
                refine o_guardY (j := 4) (e := (v8 == r4.1.Owner)) (want := true) rfl hb11 ?_
                refine o_fieldP (by decide) ty_fo41_2 rfl ?_
                refine o_guardY (j := 4) (e := (v8 == r4.1.Owner)) (want := true) rfl hb11 ?_
                refine o_load (v := .v (.int .i64 r4.1.Repaid)) 0 hS (by decide) rfl rfl .no (part_one ty_agg3 ty_sc3 rfl) ?_
                refine o_guardY (j := 4) (e := (v8 == r4.1.Owner)) (want := true) rfl hb11 ?_
                refine o_int (v := .v (.bool (v9 == r4.1.Repaid))) (by decide) rfl rfl rfl ?_
                refine o_pickT (v := .v (.bool (v9 == r4.1.Repaid))) (e := (v8 == r4.1.Owner)) (by decide) rfl hb11 rfl ?_
                refine o_move (v := .v (.bool (v9 == r4.1.Repaid))) (by decide) rfl ?_
                rcases Bool.eq_false_or_eq_true (v9 == r4.1.Repaid) with hb12 | hb12
                · replace hM := ifT hM hb12
                  refine o_guardY (j := 10) (e := (v9 == r4.1.Repaid)) (want := true) rfl hb12 ?_
                  obtain ⟨r13, hr13, hM⟩ := bindE hM
                  refine o_call (bs := []) (by decide) rfl rfl ((W_law09_works hr13).le .nil) ?_
                  refine o_pickT (v := .v (.bool r13)) (e := (v9 == r4.1.Repaid)) (by decide) rfl hb12 rfl ?_
                  refine o_assign (v := .v (.bool r13)) (by decide) rfl ?_
                  refine run_nil ?_
                  exact w_goto r13 (.cons (.refl _) .nil) ⟨(hS.keep [false] rfl).up (by omega), hM⟩
                · replace hM := ifF hM hb12
                  refine o_guardN (j := 10) (e := (v9 == r4.1.Repaid)) (want := true) (by decide) rfl hb12 ?_
                  refine o_pickF (v := .v (.bool false)) (e := (v9 == r4.1.Repaid)) (by decide) rfl hb12 rfl ?_
                  refine o_assign (v := .v (.bool false)) (by decide) rfl ?_
                  refine run_nil ?_
                  exact w_goto false (.cons (.refl _) .nil) ⟨(hS.keep [false] rfl).up (by omega), hM⟩
              · replace hM := ifF hM hb11
                refine o_guardN (j := 4) (e := (v8 == r4.1.Owner)) (want := true) (by decide) rfl hb11 ?_
                refine o_guardN (j := 4) (e := (v8 == r4.1.Owner)) (want := true) (by decide) rfl hb11 ?_
                refine o_guardN (j := 4) (e := (v8 == r4.1.Owner)) (want := true) (by decide) rfl hb11 ?_
                refine o_guardN (j := 4) (e := (v8 == r4.1.Owner)) (want := true) (by decide) rfl hb11 ?_
                refine o_pickF (v := .v (.bool false)) (e := (v8 == r4.1.Owner)) (by decide) rfl hb11 rfl ?_
                refine o_move (v := .v (.bool false)) (by decide) rfl ?_
                refine o_guardN (j := 10) (e := false) (want := true) (by decide) rfl rfl ?_
                refine o_pickF (v := .v (.bool false)) (e := false) (by decide) rfl rfl rfl ?_
                refine o_assign (v := .v (.bool false)) (by decide) rfl ?_
                refine run_nil ?_
                exact w_goto false (.cons (.refl _) .nil) ⟨(hS.keep [false] rfl).up (by omega), hM⟩
          · refine r_seq ?_
            refine r_region (n := 1) rfl ?_
            refine o_assign (v := .v (.int .i64 0)) (by decide) rfl ?_
            refine run_nil ?_
            refine w_next [(2, .ptr (g + 0) 0), (3, .ptr (g + 1) 0), (5, .ptr (g1 + 7) 0), (9, .v (.int .i64 0)), (10, .v (.int .i64 0)), (11, .v (.int .i64 0)), (12, .v (.int .i64 0))] (.cons (.refl _) (.cons (.refl _) (.cons (.refl _) (.cons (.refl _) (.cons (.refl _) (.cons (.refl _) (.cons (.refl _) .nil))))))) ?_
            refine r_block ?_
            refine w_loop (V := Int × Int × Int × Int) (fun v => [(2, .ptr (g + 0) 0), (3, .ptr (g + 1) 0), (5, .ptr (g1 + 7) 0), (9, .v (.int .i64 v.1)), (10, .v (.int .i64 v.2.1)), (11, .v (.int .i64 v.2.2.1)), (12, .v (.int .i64 v.2.2.2))]) (fun v m H' g' => St (· < g) H0 [(g1 + 7, .cells [.v (.int .i64 r4.1.Operator), .v (.int .i64 r4.1.Owner), .v (.int .i64 r4.1.Repaid)]), (g + 1, .cells [.v (.int .i64 a1.Takings), .v (.int .i64 a1.Gift), .v (.int .i64 a1.Clause)]), (g + 0, .cells [.sl .no 4 (a0.Clauses.map Clause.cells), .v (.int .i64 a0.Loan)])] H' g' ∧ law09_SharesCent_l1 n a0 a1 r4 m v.1 v.2.1 v.2.2.1 v.2.2.2 = some r) (n := n) (0, 0, 0, 0) (.cons (.refl _) (.cons (.refl _) (.cons (.refl _) (.cons (.refl _) (.cons (.refl _) (.cons (.refl _) (.cons (.refl _) .nil))))))) ⟨(hS.keep [true, true, true] rfl).up (by omega), hM⟩ ?_
            rintro ⟨v14, v15, v16, v17⟩ m H g5 ⟨hS, hM⟩
            obtain _ | m := m
            · exact nomatch (show none = some _ from hM)
            change wpA _ _ _ _ (Fr.of [(2, .ptr (g + 0) 0), (3, .ptr (g + 1) 0), (5, .ptr (g1 + 7) 0), (9, .v (.int .i64 v14)), (10, .v (.int .i64 v15)), (11, .v (.int .i64 v16)), (12, .v (.int .i64 v17))]) _ _
            replace hS : St (· < g) H0 [(g1 + 7, .cells [.v (.int .i64 r4.1.Operator), .v (.int .i64 r4.1.Owner), .v (.int .i64 r4.1.Repaid)]), (g + 1, .cells [.v (.int .i64 a1.Takings), .v (.int .i64 a1.Gift), .v (.int .i64 a1.Clause)]), (g + 0, .cells [.sl .no 4 (a0.Clauses.map Clause.cells), .v (.int .i64 a0.Loan)])] H g5 := hS
            replace hM : law09_SharesCent_l1_b n a0 a1 r4 (law09_SharesCent_l1 n a0 a1 r4 m) v14 v15 v16 v17 = some r := hM
            refine r_seq ?_
            refine r_seq ?_
            refine r_region (n := 5) rfl ?_
            refine o_move (v := .v (.int .i64 v17)) (by decide) rfl ?_
            refine o_fieldP (by decide) ty_fo24_0 rfl ?_
            refine o_load (v := .sl .no 4 (a0.Clauses.map Clause.cells)) 2 hS (by decide) rfl rfl .no (part_one ty_agg22 ty_sc22 rfl) ?_
            refine o_len (n := a0.Clauses.length) (by decide) rfl (List.length_map _) ty_isl22 ?_
            refine o_int (v := .v (.bool (decide (v17 < (a0.Clauses.length : Int))))) (by decide) rfl rfl rfl ?_
            refine run_nil ?_
            refine w_next [(2, .ptr (g + 0) 0), (3, .ptr (g + 1) 0), (5, .ptr (g1 + 7) 0), (9, .v (.int .i64 v14)), (10, .v (.int .i64 v15)), (11, .v (.int .i64 v16)), (12, .v (.int .i64 v17)), (85, .v (.bool (decide (v17 < (a0.Clauses.length : Int)))))] (.cons (.refl _) (.cons (.refl _) (.cons (.refl _) (.cons (.refl _) (.cons (.refl _) (.cons (.refl _) (.cons (.refl _) (.cons (.refl _) .nil)))))))) ?_
            rcases Bool.eq_false_or_eq_true (decide (v17 < (a0.Clauses.length : Int))) with hb18 | hb18
            · replace hM := ifT hM hb18
              refine w_condT (e := (decide (v17 < (a0.Clauses.length : Int)))) rfl hb18 ?_
              refine r_skip ?_
              refine w_next [(2, .ptr (g + 0) 0), (3, .ptr (g + 1) 0), (5, .ptr (g1 + 7) 0), (9, .v (.int .i64 v14)), (10, .v (.int .i64 v15)), (11, .v (.int .i64 v16)), (12, .v (.int .i64 v17))] (.cons (.refl _) (.cons (.refl _) (.cons (.refl _) (.cons (.refl _) (.cons (.refl _) (.cons (.refl _) (.cons (.refl _) .nil))))))) ?_
              refine w_join (J := Int × Int × Int) (fun j => [(2, .ptr (g + 0) 0), (3, .ptr (g + 1) 0), (5, .ptr (g1 + 7) 0), (9, .v (.int .i64 j.1)), (10, .v (.int .i64 j.2.1)), (11, .v (.int .i64 j.2.2)), (12, .v (.int .i64 v17))]) (fun j H' g' => St (· < g) H0 [(g1 + 7, .cells [.v (.int .i64 r4.1.Operator), .v (.int .i64 r4.1.Owner), .v (.int .i64 r4.1.Repaid)]), (g + 1, .cells [.v (.int .i64 a1.Takings), .v (.int .i64 a1.Gift), .v (.int .i64 a1.Clause)]), (g + 0, .cells [.sl .no 4 (a0.Clauses.map Clause.cells), .v (.int .i64 a0.Loan)])] H' g' ∧ law09_SharesCent_j5 (law09_SharesCent_l1 n a0 a1 r4 m) v17 j.1 j.2.1 j.2.2 = some r) ?_ ?_
              · rintro ⟨v19, v20, v21⟩ H g6 ⟨hS, hM⟩
                change wpA _ _ _ _ (Fr.of [(2, .ptr (g + 0) 0), (3, .ptr (g + 1) 0), (5, .ptr (g1 + 7) 0), (9, .v (.int .i64 v19)), (10, .v (.int .i64 v20)), (11, .v (.int .i64 v21)), (12, .v (.int .i64 v17))]) _ _
                replace hS : St (· < g) H0 [(g1 + 7, .cells [.v (.int .i64 r4.1.Operator), .v (.int .i64 r4.1.Owner), .v (.int .i64 r4.1.Repaid)]), (g + 1, .cells [.v (.int .i64 a1.Takings), .v (.int .i64 a1.Gift), .v (.int .i64 a1.Clause)]), (g + 0, .cells [.sl .no 4 (a0.Clauses.map Clause.cells), .v (.int .i64 a0.Loan)])] H g6 := hS
                replace hM : law09_SharesCent_j5 (law09_SharesCent_l1 n a0 a1 r4 m) v17 v19 v20 v21 = some r := hM
                refine r_region (n := 3) rfl ?_
                refine o_move (v := .v (.int .i64 v17)) (by decide) rfl ?_
                refine o_int (v := .v (.int .i64 (w64 (v17 + 1)))) (by decide) rfl rfl rfl ?_
                refine o_assign (v := .v (.int .i64 (w64 (v17 + 1)))) (by decide) rfl ?_
                refine run_nil ?_
                exact w_round (v19, v20, v21, w64 (v17 + 1)) (Nat.lt_succ_self _) (.cons (.refl _) (.cons (.refl _) (.cons (.refl _) (.cons (.refl _) (.cons (.refl _) (.cons (.refl _) (.cons (.refl _) .nil))))))) ⟨(hS.keep [true, true, true] rfl).up (by omega), hM⟩
              · refine r_block ?_
                refine r_seq ?_
                refine r_region (n := 10) rfl ?_
                refine o_load (v := .agg [.sl .no 4 (a0.Clauses.map Clause.cells), .v (.int .i64 a0.Loan)]) 2 hS (by decide) rfl rfl .no (part_agg ty_agg24 (Nat.le_of_ble_eq_true rfl) rfl) ?_
                refine o_fieldP (by decide) ty_fo50_0 rfl ?_
                refine o_load (v := .v (.int .i64 a1.Takings)) 1 hS (by decide) rfl rfl .no (part_one ty_agg3 ty_sc3 rfl) ?_
                refine o_move (v := .v (.int .i64 v17)) (by decide) rfl ?_
                obtain ⟨r22, hr22, hM⟩ := bindE hM
                refine o_call (bs := [.agg [.sl .no 4 (a0.Clauses.map Clause.cells), .v (.int .i64 a0.Loan)], .v (.int .i64 a1.Takings), .v (.int .i64 v17)]) (by decide) rfl rfl ((W_shares_Gives hr22).le (.cons (.refl _) (.cons (.refl _) (.cons (.refl _) .nil)))) ?_
                refine o_move (v := .tup [.v (.int .i64 r22.1), .v (.int .i64 r22.2)]) (by decide) rfl ?_
                refine o_extract (v := .v (.int .i64 r22.1)) (by decide) rfl rfl ?_
                refine o_extract (v := .v (.int .i64 r22.2)) (by decide) rfl rfl ?_
                refine o_assign (v := .v (.int .i64 r22.1)) (by decide) rfl ?_
                refine o_assign (v := .v (.int .i64 r22.2)) (by decide) rfl ?_
                refine run_nil ?_
                refine w_next [(2, .ptr (g + 0) 0), (3, .ptr (g + 1) 0), (5, .ptr (g1 + 7) 0), (9, .v (.int .i64 v14)), (10, .v (.int .i64 v15)), (11, .v (.int .i64 v16)), (12, .v (.int .i64 v17)), (13, .v (.int .i64 r22.1)), (14, .v (.int .i64 r22.2))] (.cons (.refl _) (.cons (.refl _) (.cons (.refl _) (.cons (.refl _) (.cons (.refl _) (.cons (.refl _) (.cons (.refl _) (.cons (.refl _) (.cons (.refl _) .nil))))))))) ?_
                refine r_seq ?_
                refine w_join (J := Bool) (fun j => [(2, .ptr (g + 0) 0), (3, .ptr (g + 1) 0), (5, .ptr (g1 + 7) 0), (9, .v (.int .i64 v14)), (10, .v (.int .i64 v15)), (11, .v (.int .i64 v16)), (12, .v (.int .i64 v17)), (13, .v (.int .i64 r22.1)), (109, .v (.bool j))]) (fun j H' g' => St (· < g) H0 [(g1 + 7, .cells [.v (.int .i64 r4.1.Operator), .v (.int .i64 r4.1.Owner), .v (.int .i64 r4.1.Repaid)]), (g + 1, .cells [.v (.int .i64 a1.Takings), .v (.int .i64 a1.Gift), .v (.int .i64 a1.Clause)]), (g + 0, .cells [.sl .no 4 (a0.Clauses.map Clause.cells), .v (.int .i64 a0.Loan)])] H' g' ∧ law09_SharesCent_j6 (law09_SharesCent_l1 n a0 a1 r4 m) a0 v14 v15 v16 v17 r22 j = some r) ?_ ?_
                · rintro v23 H g7 ⟨hS, hM⟩
                  change wpA _ _ _ _ (Fr.of [(2, .ptr (g + 0) 0), (3, .ptr (g + 1) 0), (5, .ptr (g1 + 7) 0), (9, .v (.int .i64 v14)), (10, .v (.int .i64 v15)), (11, .v (.int .i64 v16)), (12, .v (.int .i64 v17)), (13, .v (.int .i64 r22.1)), (109, .v (.bool v23))]) _ _
                  replace hS : St (· < g) H0 [(g1 + 7, .cells [.v (.int .i64 r4.1.Operator), .v (.int .i64 r4.1.Owner), .v (.int .i64 r4.1.Repaid)]), (g + 1, .cells [.v (.int .i64 a1.Takings), .v (.int .i64 a1.Gift), .v (.int .i64 a1.Clause)]), (g + 0, .cells [.sl .no 4 (a0.Clauses.map Clause.cells), .v (.int .i64 a0.Loan)])] H g7 := hS
                  replace hM : law09_SharesCent_j6 (law09_SharesCent_l1 n a0 a1 r4 m) a0 v14 v15 v16 v17 r22 v23 = some r := hM
                  rcases Bool.eq_false_or_eq_true v23 with hb24 | hb24
                  · replace hM := ifT hM hb24
                    refine w_condT (e := v23) rfl hb24 ?_
                    refine r_seq ?_
                    refine r_region (n := 1) rfl ?_
                    refine o_assign (v := .v (.bool false)) (by decide) rfl ?_
                    refine run_nil ?_
                    replace hS := hS.keep (L' := []) [false, false, false] rfl
                    refine w_next [(4, .v (.bool false))] (.cons (.refl _) .nil) ?_
                    refine r_ret ?_
                    refine r_then_ret ?_
                    refine r_blk_ret ?_
                    refine w_goto_ret ?_
                    refine w_round_ret ?_
                    refine r_blk_ret ?_
                    refine w_goto_ret ?_
                    refine w_end (x := .v (.bool false)) (f := fun r => .v (.bool r)) (.inr rfl) ?_ (.refl _) (Option.some.inj hM) hS
                    exact (res_one (res_tmp (x := .v (.bool false)) rfl))
                  · replace hM := ifF hM hb24
                    refine w_condF (e := v23) rfl hb24 ?_
                    refine r_skip ?_
                    refine w_next [(2, .ptr (g + 0) 0), (3, .ptr (g + 1) 0), (5, .ptr (g1 + 7) 0), (9, .v (.int .i64 v14)), (10, .v (.int .i64 v15)), (11, .v (.int .i64 v16)), (12, .v (.int .i64 v17)), (13, .v (.int .i64 r22.1))] (.cons (.refl _) (.cons (.refl _) (.cons (.refl _) (.cons (.refl _) (.cons (.refl _) (.cons (.refl _) (.cons (.refl _) (.cons (.refl _) .nil)))))))) ?_
                    refine r_seq ?_
                    refine r_region (n := 4) rfl ?_
                    refine o_move (v := .v (.int .i64 v14)) (by decide) rfl ?_
                    refine o_move (v := .v (.int .i64 r22.1)) (by decide) rfl ?_
                    refine o_int (v := .v (.int .i64 (w64 (v14 + r22.1)))) (by decide) rfl rfl rfl ?_
                    refine o_assign (v := .v (.int .i64 (w64 (v14 + r22.1)))) (by decide) rfl ?_
                    refine run_nil ?_
                    refine w_next [(2, .ptr (g + 0) 0), (3, .ptr (g + 1) 0), (5, .ptr (g1 + 7) 0), (9, .v (.int .i64 (w64 (v14 + r22.1)))), (10, .v (.int .i64 v15)), (11, .v (.int .i64 v16)), (12, .v (.int .i64 v17)), (13, .v (.int .i64 r22.1))] (.cons (.refl _) (.cons (.refl _) (.cons (.refl _) (.cons (.refl _) (.cons (.refl _) (.cons (.refl _) (.cons (.refl _) (.cons (.refl _) .nil)))))))) ?_
                    refine w_join (J := Int) (fun j => [(2, .ptr (g + 0) 0), (3, .ptr (g + 1) 0), (5, .ptr (g1 + 7) 0), (9, .v (.int .i64 (w64 (v14 + r22.1)))), (10, .v (.int .i64 j)), (11, .v (.int .i64 v16)), (12, .v (.int .i64 v17)), (13, .v (.int .i64 r22.1))]) (fun j H' g' => St (· < g) H0 [(g1 + 7, .cells [.v (.int .i64 r4.1.Operator), .v (.int .i64 r4.1.Owner), .v (.int .i64 r4.1.Repaid)]), (g + 1, .cells [.v (.int .i64 a1.Takings), .v (.int .i64 a1.Gift), .v (.int .i64 a1.Clause)]), (g + 0, .cells [.sl .no 4 (a0.Clauses.map Clause.cells), .v (.int .i64 a0.Loan)])] H' g' ∧ law09_SharesCent_j7 (law09_SharesCent_l1 n a0 a1 r4 m) a0 v14 v16 v17 r22 j = some r) ?_ ?_
                    · rintro v25 H g8 ⟨hS, hM⟩
                      change wpA _ _ _ _ (Fr.of [(2, .ptr (g + 0) 0), (3, .ptr (g + 1) 0), (5, .ptr (g1 + 7) 0), (9, .v (.int .i64 (w64 (v14 + r22.1)))), (10, .v (.int .i64 v25)), (11, .v (.int .i64 v16)), (12, .v (.int .i64 v17)), (13, .v (.int .i64 r22.1))]) _ _
                      replace hS : St (· < g) H0 [(g1 + 7, .cells [.v (.int .i64 r4.1.Operator), .v (.int .i64 r4.1.Owner), .v (.int .i64 r4.1.Repaid)]), (g + 1, .cells [.v (.int .i64 a1.Takings), .v (.int .i64 a1.Gift), .v (.int .i64 a1.Clause)]), (g + 0, .cells [.sl .no 4 (a0.Clauses.map Clause.cells), .v (.int .i64 a0.Loan)])] H g8 := hS
                      replace hM : law09_SharesCent_j7 (law09_SharesCent_l1 n a0 a1 r4 m) a0 v14 v16 v17 r22 v25 = some r := hM
                      refine r_seq ?_
                      refine r_region (n := 7) rfl ?_
                      refine o_fieldP (by decide) ty_fo24_0 rfl ?_
                      refine o_load (v := .sl .no 4 (a0.Clauses.map Clause.cells)) 2 hS (by decide) rfl rfl .no (part_one ty_agg22 ty_sc22 rfl) ?_
                      refine o_move (v := .v (.int .i64 v17)) (by decide) rfl ?_
                      obtain ⟨x26, hx26, hM⟩ := bindE hM
                      refine o_index (xs := a0.Clauses) (f := Clause.cells) (z := v17) (u := x26) (by decide) rfl rfl ty_es22 hx26 ?_
                      refine o_fieldE (cs := [.v (.int .i64 x26.Kind), .v (.int .i64 x26.Cents), .v (.int .i64 x26.Part), .v (.int .i64 x26.More)]) (by decide) ty_fo39_0 rfl ?_
                      refine o_loadE (v := .v (.int .i64 x26.Kind)) (by decide) rfl (part_one ty_agg3 ty_sc3 rfl) ?_
                      refine o_int (v := .v (.bool (x26.Kind == 2))) (by decide) rfl rfl rfl ?_
                      refine run_nil ?_
                      refine w_next [(2, .ptr (g + 0) 0), (3, .ptr (g + 1) 0), (5, .ptr (g1 + 7) 0), (9, .v (.int .i64 (w64 (v14 + r22.1)))), (10, .v (.int .i64 v25)), (11, .v (.int .i64 v16)), (12, .v (.int .i64 v17)), (13, .v (.int .i64 r22.1)), (128, .v (.bool (x26.Kind == 2)))] (.cons (.refl _) (.cons (.refl _) (.cons (.refl _) (.cons (.refl _) (.cons (.refl _) (.cons (.refl _) (.cons (.refl _) (.cons (.refl _) (.cons (.refl _) .nil))))))))) ?_
                      rcases Bool.eq_false_or_eq_true (x26.Kind == 2) with hb27 | hb27
                      · replace hM := ifT hM hb27
                        refine w_condT (e := (x26.Kind == 2)) rfl hb27 ?_
                        refine r_region (n := 4) rfl ?_
                        refine o_move (v := .v (.int .i64 v16)) (by decide) rfl ?_
                        refine o_move (v := .v (.int .i64 r22.1)) (by decide) rfl ?_
                        refine o_int (v := .v (.int .i64 (w64 (v16 + r22.1)))) (by decide) rfl rfl rfl ?_
                        refine o_assign (v := .v (.int .i64 (w64 (v16 + r22.1)))) (by decide) rfl ?_
                        refine run_nil ?_
                        refine r_blk_normal ?_
                        exact w_goto (w64 (v14 + r22.1), v25, w64 (v16 + r22.1)) (.cons (.refl _) (.cons (.refl _) (.cons (.refl _) (.cons (.refl _) (.cons (.refl _) (.cons (.refl _) (.cons (.refl _) .nil))))))) ⟨(hS.keep [true, true, true] rfl).up (by omega), hM⟩
                      · replace hM := ifF hM hb27
                        refine w_condF (e := (x26.Kind == 2)) rfl hb27 ?_
                        refine r_skip ?_
                        refine r_blk_normal ?_
                        exact w_goto (w64 (v14 + r22.1), v25, v16) (.cons (.refl _) (.cons (.refl _) (.cons (.refl _) (.cons (.refl _) (.cons (.refl _) (.cons (.refl _) (.cons (.refl _) .nil))))))) ⟨(hS.keep [true, true, true] rfl).up (by omega), hM⟩
                    · refine r_seq ?_
                      refine r_region (n := 6) rfl ?_
                      refine o_fieldP (by decide) ty_fo24_0 rfl ?_
                      refine o_load (v := .sl .no 4 (a0.Clauses.map Clause.cells)) 2 hS (by decide) rfl rfl .no (part_one ty_agg22 ty_sc22 rfl) ?_
                      refine o_move (v := .v (.int .i64 v17)) (by decide) rfl ?_
                      obtain ⟨x28, hx28, hM⟩ := bindE hM
                      refine o_index (xs := a0.Clauses) (f := Clause.cells) (z := v17) (u := x28) (by decide) rfl rfl ty_es22 hx28 ?_
                      refine o_loadE (v := .agg [.v (.int .i64 x28.Kind), .v (.int .i64 x28.Cents), .v (.int .i64 x28.Part), .v (.int .i64 x28.More)]) (by decide) rfl (part_agg ty_agg39 (Nat.le_of_ble_eq_true rfl) rfl) ?_
                      obtain ⟨r29, hr29, hM⟩ := bindE hM
                      refine o_call (bs := [.agg [.v (.int .i64 x28.Kind), .v (.int .i64 x28.Cents), .v (.int .i64 x28.Part), .v (.int .i64 x28.More)]]) (by decide) rfl rfl ((W_ref09_IsOwners hr29).le (.cons (.refl _) .nil)) ?_
                      refine run_nil ?_
                      refine w_next [(2, .ptr (g + 0) 0), (3, .ptr (g + 1) 0), (5, .ptr (g1 + 7) 0), (9, .v (.int .i64 (w64 (v14 + r22.1)))), (10, .v (.int .i64 v15)), (11, .v (.int .i64 v16)), (12, .v (.int .i64 v17)), (13, .v (.int .i64 r22.1)), (118, .v (.bool r29))] (.cons (.refl _) (.cons (.refl _) (.cons (.refl _) (.cons (.refl _) (.cons (.refl _) (.cons (.refl _) (.cons (.refl _) (.cons (.refl _) (.cons (.refl _) .nil))))))))) ?_
                      rcases Bool.eq_false_or_eq_true r29 with hb30 | hb30
                      · replace hM := ifT hM hb30
                        refine w_condT (e := r29) rfl hb30 ?_
                        refine r_region (n := 4) rfl ?_
                        refine o_move (v := .v (.int .i64 v15)) (by decide) rfl ?_
                        refine o_move (v := .v (.int .i64 r22.1)) (by decide) rfl ?_
                        refine o_int (v := .v (.int .i64 (w64 (v15 + r22.1)))) (by decide) rfl rfl rfl ?_
                        refine o_assign (v := .v (.int .i64 (w64 (v15 + r22.1)))) (by decide) rfl ?_
                        refine run_nil ?_
                        exact w_goto (w64 (v15 + r22.1)) (.cons (.refl _) (.cons (.refl _) (.cons (.refl _) (.cons (.refl _) (.cons (.refl _) (.cons (.refl _) (.cons (.refl _) (.cons (.refl _) .nil)))))))) ⟨(hS.keep [true, true, true] rfl).up (by omega), hM⟩
                      · replace hM := ifF hM hb30
                        refine w_condF (e := r29) rfl hb30 ?_
                        refine r_skip ?_
                        exact w_goto v15 (.cons (.refl _) (.cons (.refl _) (.cons (.refl _) (.cons (.refl _) (.cons (.refl _) (.cons (.refl _) (.cons (.refl _) (.cons (.refl _) .nil)))))))) ⟨(hS.keep [true, true, true] rfl).up (by omega), hM⟩
                · refine r_region (n := 14) rfl ?_
                  refine o_move (v := .v (.int .i64 r22.2)) (by decide) rfl ?_
                  refine o_int (v := .v (.bool (r22.2 != 0))) (by decide) rfl rfl rfl ?_
                  refine o_move (v := .v (.bool (r22.2 != 0))) (by decide) rfl ?_
                  rcases Bool.eq_false_or_eq_true (r22.2 != 0) with hb31 | hb31
                  · replace hM := ifT hM hb31
                    refine o_guardN (j := 2) (e := (r22.2 != 0)) (want := false) (by decide) rfl hb31 ?_
                    refine o_guardN (j := 2) (e := (r22.2 != 0)) (want := false) (by decide) rfl hb31 ?_
                    refine o_pickT (v := .v (.bool true)) (e := (r22.2 != 0)) (by decide) rfl hb31 rfl ?_
                    refine o_move (v := .v (.bool true)) (by decide) rfl ?_
                    refine o_guardN (j := 6) (e := true) (want := false) (by decide) rfl rfl ?_
                    refine o_guardN (j := 6) (e := true) (want := false) (by decide) rfl rfl ?_
                    refine o_guardN (j := 6) (e := true) (want := false) (by decide) rfl rfl ?_
                    refine o_guardN (j := 6) (e := true) (want := false) (by decide) rfl rfl ?_
                    refine o_guardN (j := 6) (e := true) (want := false) (by decide) rfl rfl ?_
                    refine o_guardN (j := 6) (e := true) (want := false) (by decide) rfl rfl ?_
                    refine o_pickT (v := .v (.bool true)) (e := true) (by decide) rfl rfl rfl ?_
                    refine run_nil ?_
                    exact w_goto true (.cons (.refl _) (.cons (.refl _) (.cons (.refl _) (.cons (.refl _) (.cons (.refl _) (.cons (.refl _) (.cons (.refl _) (.cons (.refl _) (.cons (.refl _) .nil))))))))) ⟨(hS.keep [true, true, true] rfl).up (by omega), hM⟩
                  · replace hM := ifF hM hb31
                    refine o_guardY (j := 2) (e := (r22.2 != 0)) (want := false) rfl hb31 ?_
                    refine o_move (v := .v (.int .i64 r22.1)) (by decide) rfl ?_
                    refine o_guardY (j := 2) (e := (r22.2 != 0)) (want := false) rfl hb31 ?_
                    refine o_int (v := .v (.bool (decide (r22.1 < 0)))) (by decide) rfl rfl rfl ?_
                    refine o_pickF (v := .v (.bool (decide (r22.1 < 0)))) (e := (r22.2 != 0)) (by decide) rfl hb31 rfl ?_
                    refine o_move (v := .v (.bool (decide (r22.1 < 0)))) (by decide) rfl ?_
                    rcases Bool.eq_false_or_eq_true (decide (r22.1 < 0)) with hb32 | hb32
                    · replace hM := ifT hM hb32
                      refine o_guardN (j := 6) (e := (decide (r22.1 < 0))) (want := false) (by decide) rfl hb32 ?_
                      refine o_guardN (j := 6) (e := (decide (r22.1 < 0))) (want := false) (by decide) rfl hb32 ?_
                      refine o_guardN (j := 6) (e := (decide (r22.1 < 0))) (want := false) (by decide) rfl hb32 ?_
                      refine o_guardN (j := 6) (e := (decide (r22.1 < 0))) (want := false) (by decide) rfl hb32 ?_
                      refine o_guardN (j := 6) (e := (decide (r22.1 < 0))) (want := false) (by decide) rfl hb32 ?_
                      refine o_guardN (j := 6) (e := (decide (r22.1 < 0))) (want := false) (by decide) rfl hb32 ?_
                      refine o_pickT (v := .v (.bool true)) (e := (decide (r22.1 < 0))) (by decide) rfl hb32 rfl ?_
                      refine run_nil ?_
                      exact w_goto true (.cons (.refl _) (.cons (.refl _) (.cons (.refl _) (.cons (.refl _) (.cons (.refl _) (.cons (.refl _) (.cons (.refl _) (.cons (.refl _) (.cons (.refl _) .nil))))))))) ⟨(hS.keep [true, true, true] rfl).up (by omega), hM⟩
                    · replace hM := ifF hM hb32
                      refine o_guardY (j := 6) (e := (decide (r22.1 < 0))) (want := false) rfl hb32 ?_
                      refine o_move (v := .v (.int .i64 r22.1)) (by decide) rfl ?_
                      refine o_guardY (j := 6) (e := (decide (r22.1 < 0))) (want := false) rfl hb32 ?_
                      refine o_fieldP (by decide) ty_fo50_0 rfl ?_
                      refine o_guardY (j := 6) (e := (decide (r22.1 < 0))) (want := false) rfl hb32 ?_
                      refine o_load (v := .v (.int .i64 a1.Takings)) 1 hS (by decide) rfl rfl .no (part_one ty_agg3 ty_sc3 rfl) ?_
                      refine o_guardY (j := 6) (e := (decide (r22.1 < 0))) (want := false) rfl hb32 ?_
                      refine o_move (v := .v (.int .i64 v14)) (by decide) rfl ?_
                      refine o_guardY (j := 6) (e := (decide (r22.1 < 0))) (want := false) rfl hb32 ?_
                      refine o_int (v := .v (.int .i64 (w64 (a1.Takings - v14)))) (by decide) rfl rfl rfl ?_
                      refine o_guardY (j := 6) (e := (decide (r22.1 < 0))) (want := false) rfl hb32 ?_
                      refine o_int (v := .v (.bool (decide (r22.1 > (w64 (a1.Takings - v14)))))) (by decide) rfl rfl rfl ?_
                      refine o_pickF (v := .v (.bool (decide (r22.1 > (w64 (a1.Takings - v14)))))) (e := (decide (r22.1 < 0))) (by decide) rfl hb32 rfl ?_
                      refine run_nil ?_
                      exact w_goto (decide (r22.1 > (w64 (a1.Takings - v14)))) (.cons (.refl _) (.cons (.refl _) (.cons (.refl _) (.cons (.refl _) (.cons (.refl _) (.cons (.refl _) (.cons (.refl _) (.cons (.refl _) (.cons (.refl _) .nil))))))))) ⟨(hS.keep [true, true, true] rfl).up (by omega), hM⟩
            · replace hM := ifF hM hb18
              refine w_condF (e := (decide (v17 < (a0.Clauses.length : Int)))) rfl hb18 ?_
              refine r_exit ?_
              refine r_then_exit ?_
              refine w_round_exit ?_
              refine r_blk_exit ?_
              exact w_goto (v15, v16) (.cons (.refl _) (.cons (.refl _) (.cons (.refl _) .nil))) ⟨(hS.keep [true, false, false] rfl).up (by omega), hM⟩
      · refine r_region (n := 34) rfl ?_
        refine o_move (v := .v (.int .i64 r4.2)) (by decide) rfl ?_
        refine o_int (v := .v (.bool (r4.2 != 0))) (by decide) rfl rfl rfl ?_
        refine o_move (v := .v (.bool (r4.2 != 0))) (by decide) rfl ?_
        rcases Bool.eq_false_or_eq_true (r4.2 != 0) with hb33 | hb33
        · replace hM := ifT hM hb33
          refine o_guardN (j := 2) (e := (r4.2 != 0)) (want := false) (by decide) rfl hb33 ?_
          refine o_guardN (j := 2) (e := (r4.2 != 0)) (want := false) (by decide) rfl hb33 ?_
          refine o_pickT (v := .v (.bool true)) (e := (r4.2 != 0)) (by decide) rfl hb33 rfl ?_
          refine o_move (v := .v (.bool true)) (by decide) rfl ?_
          refine o_guardN (j := 6) (e := true) (want := false) (by decide) rfl rfl ?_
          refine o_guardN (j := 6) (e := true) (want := false) (by decide) rfl rfl ?_
          refine o_guardN (j := 6) (e := true) (want := false) (by decide) rfl rfl ?_
          refine o_guardN (j := 6) (e := true) (want := false) (by decide) rfl rfl ?_
          refine o_guardN (j := 6) (e := true) (want := false) (by decide) rfl rfl ?_
          refine o_guardN (j := 6) (e := true) (want := false) (by decide) rfl rfl ?_
          refine o_guardN (j := 6) (e := true) (want := false) (by decide) rfl rfl ?_
          refine o_pickT (v := .v (.bool true)) (e := true) (by decide) rfl rfl rfl ?_
          refine o_move (v := .v (.bool true)) (by decide) rfl ?_
          refine o_guardN (j := 15) (e := true) (want := false) (by decide) rfl rfl ?_
          refine o_guardN (j := 15) (e := true) (want := false) (by decide) rfl rfl ?_
          refine o_guardN (j := 15) (e := true) (want := false) (by decide) rfl rfl ?_
          refine o_guardN (j := 15) (e := true) (want := false) (by decide) rfl rfl ?_
          refine o_guardN (j := 15) (e := true) (want := false) (by decide) rfl rfl ?_
          refine o_guardN (j := 15) (e := true) (want := false) (by decide) rfl rfl ?_
          refine o_guardN (j := 15) (e := true) (want := false) (by decide) rfl rfl ?_
          refine o_pickT (v := .v (.bool true)) (e := true) (by decide) rfl rfl rfl ?_
          refine o_move (v := .v (.bool true)) (by decide) rfl ?_
          refine o_guardN (j := 24) (e := true) (want := false) (by decide) rfl rfl ?_
          refine o_guardN (j := 24) (e := true) (want := false) (by decide) rfl rfl ?_
          refine o_guardN (j := 24) (e := true) (want := false) (by decide) rfl rfl ?_
          refine o_guardN (j := 24) (e := true) (want := false) (by decide) rfl rfl ?_
          refine o_guardN (j := 24) (e := true) (want := false) (by decide) rfl rfl ?_
          refine o_guardN (j := 24) (e := true) (want := false) (by decide) rfl rfl ?_
          refine o_guardN (j := 24) (e := true) (want := false) (by decide) rfl rfl ?_
          refine o_guardN (j := 24) (e := true) (want := false) (by decide) rfl rfl ?_
          refine o_pickT (v := .v (.bool true)) (e := true) (by decide) rfl rfl rfl ?_
          refine run_nil ?_
          exact w_goto true (.cons (.refl _) (.cons (.refl _) (.cons (.refl _) (.cons (.refl _) .nil)))) ⟨(hS.keep [false, true, true, true] rfl).up (by omega), hM⟩
        · replace hM := ifF hM hb33
          refine o_guardY (j := 2) (e := (r4.2 != 0)) (want := false) rfl hb33 ?_
          refine o_move (v := .v (.int .i64 r5.2)) (by decide) rfl ?_
          refine o_guardY (j := 2) (e := (r4.2 != 0)) (want := false) rfl hb33 ?_
          refine o_int (v := .v (.bool (r5.2 != 0))) (by decide) rfl rfl rfl ?_
          refine o_pickF (v := .v (.bool (r5.2 != 0))) (e := (r4.2 != 0)) (by decide) rfl hb33 rfl ?_
          refine o_move (v := .v (.bool (r5.2 != 0))) (by decide) rfl ?_
          rcases Bool.eq_false_or_eq_true (r5.2 != 0) with hb34 | hb34
          · replace hM := ifT hM hb34
            refine o_guardN (j := 6) (e := (r5.2 != 0)) (want := false) (by decide) rfl hb34 ?_
            refine o_guardN (j := 6) (e := (r5.2 != 0)) (want := false) (by decide) rfl hb34 ?_
            refine o_guardN (j := 6) (e := (r5.2 != 0)) (want := false) (by decide) rfl hb34 ?_
            refine o_guardN (j := 6) (e := (r5.2 != 0)) (want := false) (by decide) rfl hb34 ?_
            refine o_guardN (j := 6) (e := (r5.2 != 0)) (want := false) (by decide) rfl hb34 ?_
            refine o_guardN (j := 6) (e := (r5.2 != 0)) (want := false) (by decide) rfl hb34 ?_
            refine o_guardN (j := 6) (e := (r5.2 != 0)) (want := false) (by decide) rfl hb34 ?_
            refine o_pickT (v := .v (.bool true)) (e := (r5.2 != 0)) (by decide) rfl hb34 rfl ?_
            refine o_move (v := .v (.bool true)) (by decide) rfl ?_
            refine o_guardN (j := 15) (e := true) (want := false) (by decide) rfl rfl ?_
            refine o_guardN (j := 15) (e := true) (want := false) (by decide) rfl rfl ?_
            refine o_guardN (j := 15) (e := true) (want := false) (by decide) rfl rfl ?_
            refine o_guardN (j := 15) (e := true) (want := false) (by decide) rfl rfl ?_
            refine o_guardN (j := 15) (e := true) (want := false) (by decide) rfl rfl ?_
            refine o_guardN (j := 15) (e := true) (want := false) (by decide) rfl rfl ?_
            refine o_guardN (j := 15) (e := true) (want := false) (by decide) rfl rfl ?_
            refine o_pickT (v := .v (.bool true)) (e := true) (by decide) rfl rfl rfl ?_
            refine o_move (v := .v (.bool true)) (by decide) rfl ?_
            refine o_guardN (j := 24) (e := true) (want := false) (by decide) rfl rfl ?_
            refine o_guardN (j := 24) (e := true) (want := false) (by decide) rfl rfl ?_
            refine o_guardN (j := 24) (e := true) (want := false) (by decide) rfl rfl ?_
            refine o_guardN (j := 24) (e := true) (want := false) (by decide) rfl rfl ?_
            refine o_guardN (j := 24) (e := true) (want := false) (by decide) rfl rfl ?_
            refine o_guardN (j := 24) (e := true) (want := false) (by decide) rfl rfl ?_
            refine o_guardN (j := 24) (e := true) (want := false) (by decide) rfl rfl ?_
            refine o_guardN (j := 24) (e := true) (want := false) (by decide) rfl rfl ?_
            refine o_pickT (v := .v (.bool true)) (e := true) (by decide) rfl rfl rfl ?_
            refine run_nil ?_
            exact w_goto true (.cons (.refl _) (.cons (.refl _) (.cons (.refl _) (.cons (.refl _) .nil)))) ⟨(hS.keep [false, true, true, true] rfl).up (by omega), hM⟩
          · replace hM := ifF hM hb34
            refine o_guardY (j := 6) (e := (r5.2 != 0)) (want := false) rfl hb34 ?_
            refine o_load (v := .agg [.v (.int .i64 r4.1.Operator), .v (.int .i64 r4.1.Owner), .v (.int .i64 r4.1.Repaid)]) 1 hS (by decide) rfl rfl .no (part_agg ty_agg41 (Nat.le_of_ble_eq_true rfl) rfl) ?_
            refine o_guardY (j := 6) (e := (r5.2 != 0)) (want := false) rfl hb34 ?_
            refine o_fieldP (by decide) ty_fo50_0 rfl ?_
            refine o_guardY (j := 6) (e := (r5.2 != 0)) (want := false) rfl hb34 ?_
            refine o_load (v := .v (.int .i64 a1.Takings)) 2 hS (by decide) rfl rfl .no (part_one ty_agg3 ty_sc3 rfl) ?_
            refine o_guardY (j := 6) (e := (r5.2 != 0)) (want := false) rfl hb34 ?_
            refine o_fieldP (by decide) ty_fo24_1 rfl ?_
            refine o_guardY (j := 6) (e := (r5.2 != 0)) (want := false) rfl hb34 ?_
            refine o_load (v := .v (.int .i64 a0.Loan)) 3 hS (by decide) rfl rfl .no (part_one ty_agg3 ty_sc3 rfl) ?_
            refine o_guardY (j := 6) (e := (r5.2 != 0)) (want := false) rfl hb34 ?_
            obtain ⟨r35, hr35, hM⟩ := bindE hM
            refine o_call (bs := [.agg [.v (.int .i64 r4.1.Operator), .v (.int .i64 r4.1.Owner), .v (.int .i64 r4.1.Repaid)], .v (.int .i64 a1.Takings), .v (.int .i64 a0.Loan)]) (by decide) rfl rfl ((W_law09_isSplit hr35).le (.cons (.refl _) (.cons (.refl _) (.cons (.refl _) .nil)))) ?_
            refine o_guardY (j := 6) (e := (r5.2 != 0)) (want := false) rfl hb34 ?_
            refine o_not (e := r35) (by decide) rfl ?_
            refine o_pickF (v := .v (.bool (!r35))) (e := (r5.2 != 0)) (by decide) rfl hb34 rfl ?_
            refine o_move (v := .v (.bool (!r35))) (by decide) rfl ?_
            rcases Bool.eq_false_or_eq_true (!r35) with hb36 | hb36
            · replace hM := ifT hM hb36
              refine o_guardN (j := 15) (e := (!r35)) (want := false) (by decide) rfl hb36 ?_
              refine o_guardN (j := 15) (e := (!r35)) (want := false) (by decide) rfl hb36 ?_
              refine o_guardN (j := 15) (e := (!r35)) (want := false) (by decide) rfl hb36 ?_
              refine o_guardN (j := 15) (e := (!r35)) (want := false) (by decide) rfl hb36 ?_
              refine o_guardN (j := 15) (e := (!r35)) (want := false) (by decide) rfl hb36 ?_
              refine o_guardN (j := 15) (e := (!r35)) (want := false) (by decide) rfl hb36 ?_
              refine o_guardN (j := 15) (e := (!r35)) (want := false) (by decide) rfl hb36 ?_
              refine o_pickT (v := .v (.bool true)) (e := (!r35)) (by decide) rfl hb36 rfl ?_
              refine o_move (v := .v (.bool true)) (by decide) rfl ?_
              refine o_guardN (j := 24) (e := true) (want := false) (by decide) rfl rfl ?_
              refine o_guardN (j := 24) (e := true) (want := false) (by decide) rfl rfl ?_
              refine o_guardN (j := 24) (e := true) (want := false) (by decide) rfl rfl ?_
              refine o_guardN (j := 24) (e := true) (want := false) (by decide) rfl rfl ?_
              refine o_guardN (j := 24) (e := true) (want := false) (by decide) rfl rfl ?_
              refine o_guardN (j := 24) (e := true) (want := false) (by decide) rfl rfl ?_
              refine o_guardN (j := 24) (e := true) (want := false) (by decide) rfl rfl ?_
              refine o_guardN (j := 24) (e := true) (want := false) (by decide) rfl rfl ?_
              refine o_pickT (v := .v (.bool true)) (e := true) (by decide) rfl rfl rfl ?_
              refine run_nil ?_
              exact w_goto true (.cons (.refl _) (.cons (.refl _) (.cons (.refl _) (.cons (.refl _) .nil)))) ⟨(hS.keep [false, true, true, true] rfl).up (by omega), hM⟩
            · replace hM := ifF hM hb36
              refine o_guardY (j := 15) (e := (!r35)) (want := false) rfl hb36 ?_
              refine o_load (v := .agg [.v (.int .i64 r5.1.Operator), .v (.int .i64 r5.1.Owner), .v (.int .i64 r5.1.Repaid)]) 0 hS (by decide) rfl rfl .no (part_agg ty_agg41 (Nat.le_of_ble_eq_true rfl) rfl) ?_
              refine o_guardY (j := 15) (e := (!r35)) (want := false) rfl hb36 ?_
              refine o_fieldP (by decide) ty_fo50_0 rfl ?_
              refine o_guardY (j := 15) (e := (!r35)) (want := false) rfl hb36 ?_
              refine o_load (v := .v (.int .i64 a1.Takings)) 2 hS (by decide) rfl rfl .no (part_one ty_agg3 ty_sc3 rfl) ?_
              refine o_guardY (j := 15) (e := (!r35)) (want := false) rfl hb36 ?_
              refine o_fieldP (by decide) ty_fo24_1 rfl ?_
              refine o_guardY (j := 15) (e := (!r35)) (want := false) rfl hb36 ?_
              refine o_load (v := .v (.int .i64 a0.Loan)) 3 hS (by decide) rfl rfl .no (part_one ty_agg3 ty_sc3 rfl) ?_
              refine o_guardY (j := 15) (e := (!r35)) (want := false) rfl hb36 ?_
              obtain ⟨r37, hr37, hM⟩ := bindE hM
              refine o_call (bs := [.agg [.v (.int .i64 r5.1.Operator), .v (.int .i64 r5.1.Owner), .v (.int .i64 r5.1.Repaid)], .v (.int .i64 a1.Takings), .v (.int .i64 a0.Loan)]) (by decide) rfl rfl ((W_law09_isSplit hr37).le (.cons (.refl _) (.cons (.refl _) (.cons (.refl _) .nil)))) ?_
              refine o_guardY (j := 15) (e := (!r35)) (want := false) rfl hb36 ?_
              refine o_not (e := r37) (by decide) rfl ?_
              refine o_pickF (v := .v (.bool (!r37))) (e := (!r35)) (by decide) rfl hb36 rfl ?_
              refine o_move (v := .v (.bool (!r37))) (by decide) rfl ?_
              rcases Bool.eq_false_or_eq_true (!r37) with hb38 | hb38
              · replace hM := ifT hM hb38
                refine o_guardN (j := 24) (e := (!r37)) (want := false) (by decide) rfl hb38 ?_
                refine o_guardN (j := 24) (e := (!r37)) (want := false) (by decide) rfl hb38 ?_
                refine o_guardN (j := 24) (e := (!r37)) (want := false) (by decide) rfl hb38 ?_
                refine o_guardN (j := 24) (e := (!r37)) (want := false) (by decide) rfl hb38 ?_
                refine o_guardN (j := 24) (e := (!r37)) (want := false) (by decide) rfl hb38 ?_
                refine o_guardN (j := 24) (e := (!r37)) (want := false) (by decide) rfl hb38 ?_
                refine o_guardN (j := 24) (e := (!r37)) (want := false) (by decide) rfl hb38 ?_
                refine o_guardN (j := 24) (e := (!r37)) (want := false) (by decide) rfl hb38 ?_
                refine o_pickT (v := .v (.bool true)) (e := (!r37)) (by decide) rfl hb38 rfl ?_
                refine run_nil ?_
                exact w_goto true (.cons (.refl _) (.cons (.refl _) (.cons (.refl _) (.cons (.refl _) .nil)))) ⟨(hS.keep [false, true, true, true] rfl).up (by omega), hM⟩
              · replace hM := ifF hM hb38
                refine o_guardY (j := 24) (e := (!r37)) (want := false) rfl hb38 ?_
                refine o_fieldP (by decide) ty_fo41_1 rfl ?_
                refine o_guardY (j := 24) (e := (!r37)) (want := false) rfl hb38 ?_
                refine o_load (v := .v (.int .i64 r5.1.Owner)) 0 hS (by decide) rfl rfl .no (part_one ty_agg3 ty_sc3 rfl) ?_
                refine o_guardY (j := 24) (e := (!r37)) (want := false) rfl hb38 ?_
                refine o_fieldP (by decide) ty_fo50_1 rfl ?_
                refine o_guardY (j := 24) (e := (!r37)) (want := false) rfl hb38 ?_
                refine o_load (v := .v (.int .i64 a1.Gift)) 2 hS (by decide) rfl rfl .no (part_one ty_agg3 ty_sc3 rfl) ?_
                refine o_guardY (j := 24) (e := (!r37)) (want := false) rfl hb38 ?_
                refine o_fieldP (by decide) ty_fo50_0 rfl ?_
                refine o_guardY (j := 24) (e := (!r37)) (want := false) rfl hb38 ?_
                refine o_load (v := .v (.int .i64 a1.Takings)) 2 hS (by decide) rfl rfl .no (part_one ty_agg3 ty_sc3 rfl) ?_
                refine o_guardY (j := 24) (e := (!r37)) (want := false) rfl hb38 ?_
                refine o_min (v := .v (.int .i64 (min a1.Gift a1.Takings))) (by decide) rfl ?_
                refine o_guardY (j := 24) (e := (!r37)) (want := false) rfl hb38 ?_
                refine o_int (v := .v (.bool (decide (r5.1.Owner < (min a1.Gift a1.Takings))))) (by decide) rfl rfl rfl ?_
                refine o_pickF (v := .v (.bool (decide (r5.1.Owner < (min a1.Gift a1.Takings))))) (e := (!r37)) (by decide) rfl hb38 rfl ?_
                refine run_nil ?_
                exact w_goto (decide (r5.1.Owner < (min a1.Gift a1.Takings))) (.cons (.refl _) (.cons (.refl _) (.cons (.refl _) (.cons (.refl _) .nil)))) ⟨(hS.keep [false, true, true, true] rfl).up (by omega), hM⟩
  · refine r_region (n := 15) rfl ?_
    refine o_load (v := .agg [.sl .no 4 (a0.Clauses.map Clause.cells), .v (.int .i64 a0.Loan)]) 1 hS (by decide) rfl rfl .no (part_agg ty_agg24 (Nat.le_of_ble_eq_true rfl) rfl) ?_
    obtain ⟨r39, hr39, hM⟩ := bindE hM
    refine o_call (bs := [.agg [.sl .no 4 (a0.Clauses.map Clause.cells), .v (.int .i64 a0.Loan)]]) (by decide) rfl rfl ((W_law09_isShare hr39).le (.cons (.refl _) .nil)) ?_
    refine o_not (e := r39) (by decide) rfl ?_
    refine o_move (v := .v (.bool (!r39))) (by decide) rfl ?_
    rcases Bool.eq_false_or_eq_true (!r39) with hb40 | hb40
    · replace hM := ifT hM hb40
      refine o_guardN (j := 3) (e := (!r39)) (want := false) (by decide) rfl hb40 ?_
      refine o_guardN (j := 3) (e := (!r39)) (want := false) (by decide) rfl hb40 ?_
      refine o_guardN (j := 3) (e := (!r39)) (want := false) (by decide) rfl hb40 ?_
      refine o_guardN (j := 3) (e := (!r39)) (want := false) (by decide) rfl hb40 ?_
      refine o_pickT (v := .v (.bool true)) (e := (!r39)) (by decide) rfl hb40 rfl ?_
      refine o_move (v := .v (.bool true)) (by decide) rfl ?_
      refine o_guardN (j := 9) (e := true) (want := false) (by decide) rfl rfl ?_
      refine o_guardN (j := 9) (e := true) (want := false) (by decide) rfl rfl ?_
      refine o_guardN (j := 9) (e := true) (want := false) (by decide) rfl rfl ?_
      refine o_guardN (j := 9) (e := true) (want := false) (by decide) rfl rfl ?_
      refine o_pickT (v := .v (.bool true)) (e := true) (by decide) rfl rfl rfl ?_
      refine run_nil ?_
      exact w_goto true (.cons (.refl _) (.cons (.refl _) (.cons (.refl _) .nil))) ⟨(hS.keep [true, true] rfl).up (by omega), hM⟩
    · replace hM := ifF hM hb40
      refine o_guardY (j := 3) (e := (!r39)) (want := false) rfl hb40 ?_
      refine o_fieldP (by decide) ty_fo50_0 rfl ?_
      refine o_guardY (j := 3) (e := (!r39)) (want := false) rfl hb40 ?_
      refine o_load (v := .v (.int .i64 a1.Takings)) 0 hS (by decide) rfl rfl .no (part_one ty_agg3 ty_sc3 rfl) ?_
      refine o_guardY (j := 3) (e := (!r39)) (want := false) rfl hb40 ?_
      obtain ⟨r41, hr41, hM⟩ := bindE hM
      refine o_call (bs := [.v (.int .i64 a1.Takings)]) (by decide) rfl rfl ((W_ref09_IsCents hr41).le (.cons (.refl _) .nil)) ?_
      refine o_guardY (j := 3) (e := (!r39)) (want := false) rfl hb40 ?_
      refine o_not (e := r41) (by decide) rfl ?_
      refine o_pickF (v := .v (.bool (!r41))) (e := (!r39)) (by decide) rfl hb40 rfl ?_
      refine o_move (v := .v (.bool (!r41))) (by decide) rfl ?_
      rcases Bool.eq_false_or_eq_true (!r41) with hb42 | hb42
      · replace hM := ifT hM hb42
        refine o_guardN (j := 9) (e := (!r41)) (want := false) (by decide) rfl hb42 ?_
        refine o_guardN (j := 9) (e := (!r41)) (want := false) (by decide) rfl hb42 ?_
        refine o_guardN (j := 9) (e := (!r41)) (want := false) (by decide) rfl hb42 ?_
        refine o_guardN (j := 9) (e := (!r41)) (want := false) (by decide) rfl hb42 ?_
        refine o_pickT (v := .v (.bool true)) (e := (!r41)) (by decide) rfl hb42 rfl ?_
        refine run_nil ?_
        exact w_goto true (.cons (.refl _) (.cons (.refl _) (.cons (.refl _) .nil))) ⟨(hS.keep [true, true] rfl).up (by omega), hM⟩
      · replace hM := ifF hM hb42
        refine o_guardY (j := 9) (e := (!r41)) (want := false) rfl hb42 ?_
        refine o_fieldP (by decide) ty_fo50_1 rfl ?_
        refine o_guardY (j := 9) (e := (!r41)) (want := false) rfl hb42 ?_
        refine o_load (v := .v (.int .i64 a1.Gift)) 0 hS (by decide) rfl rfl .no (part_one ty_agg3 ty_sc3 rfl) ?_
        refine o_guardY (j := 9) (e := (!r41)) (want := false) rfl hb42 ?_
        obtain ⟨r43, hr43, hM⟩ := bindE hM
        refine o_call (bs := [.v (.int .i64 a1.Gift)]) (by decide) rfl rfl ((W_ref09_IsCents hr43).le (.cons (.refl _) .nil)) ?_
        refine o_guardY (j := 9) (e := (!r41)) (want := false) rfl hb42 ?_
        refine o_not (e := r43) (by decide) rfl ?_
        refine o_pickF (v := .v (.bool (!r43))) (e := (!r41)) (by decide) rfl hb42 rfl ?_
        refine run_nil ?_
        exact w_goto (!r43) (.cons (.refl _) (.cons (.refl _) (.cons (.refl _) .nil))) ⟨(hS.keep [true, true] rfl).up (by omega), hM⟩
end Go.Proofs.Ytkgldpboiigphaa
